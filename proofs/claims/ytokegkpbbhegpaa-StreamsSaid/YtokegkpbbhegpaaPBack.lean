/- A stream's bytes come back (chapter 23): what Get gives of what Put gave; lists and numbers alone. -/
import Derived.Test.YtokegkpbbhegpaaWGetD
namespace Go.Proofs.Ytokegkpbbhegpaa
open Go.RowKit Go.Proofs.YtokegkpbbhegpaaW.PrintWords Go.Proofs.Ytokegkpbbhegpaa.PL Go.Proofs.Ytokegkpbbhegpaa.L
set_option linter.unusedVariables false
set_option linter.unusedSimpArgs false

theorem ext_list (s : ByteArray) (i j : Nat) : (s.extract i j).data.toList = (s.data.toList.take j).drop i := by
  rw [ByteArray.data_extract, Array.toList_extract, List.extract_eq_take_drop, List.drop_take]
theorem ba_ext {s t : ByteArray} (h : s.data.toList = t.data.toList) : s = t := ByteArray.ext (Array.toList_inj.1 h)
theorem size_list (s : ByteArray) : s.size = s.data.toList.length := by rw [Array.length_toList]; rfl
theorem ext_mid {s : ByteArray} {A B C : List UInt8} (h : s.data.toList = A ++ B ++ C) : s.extract A.length (A.length + B.length) = ⟨B.toArray⟩ := by
  apply ba_ext
  rw [ext_list, h, List.append_assoc, List.take_append]
  simp
theorem take_at {s : ByteArray} {A B C : List UInt8} (h : s.data.toList = A ++ B ++ C) {i n : Int} (hi : i = A.length) (hn : n = B.length) : takeT s i false n = (⟨B.toArray⟩, i + n, false) := by
  have hs : s.size = A.length + B.length + C.length := by rw [size_list, h]; simp; omega
  subst hi hn
  unfold takeT
  rw [if_neg (by rintro (h | h | h); exact absurd h (by decide); omega; omega)]
  rw [Int.toNat_natCast, show ((A.length : Int) + (B.length : Int)).toNat = A.length + B.length by omega, ext_mid h]
theorem bt_at_list {s : ByteArray} {A C : List UInt8} {x : UInt8} (h : s.data.toList = A ++ x :: C) {i : Int} (hi : i = A.length) : bt s i = (x.toNat : Int) := by
  subst hi
  have hs : A.length < s.size := by rw [size_list, h]; simp
  unfold bt
  rw [dif_pos (by rw [Int.toNat_natCast]; exact hs)]
  have : s[(A.length : Int).toNat]'(by rw [Int.toNat_natCast]; exact hs) = x := by
    show s.data[(A.length : Int).toNat]'_ = x
    rw [← Array.getElem_toList]
    simp only [h, Int.toNat_natCast]
    simp
  rw [this]
theorem low_val {n : Int} (h0 : 0 ≤ n) (h1 : n < 256) : ((lowB n).toNat : Int) = n := by
  unfold lowB
  rw [UInt8.toNat_ofNat']
  omega
theorem low_of (x : UInt8) : lowB (x.toNat : Int) = x := by
  have := x.toNat_lt
  unfold lowB
  rw [show ((x.toNat : Int) % 256).toNat = x.toNat by omega]
  simp
/-! ### fields -/
theorem fieldV1 {s : ByteArray} {x : UInt8} (h : s.data.toList = [x]) : fieldV s = x.toNat := by
  have hs : s.size = 1 := by rw [size_list, h]; rfl
  unfold fieldV
  rw [if_neg (by omega), bt_at_list (i := 0) (A := []) (C := []) h rfl, hs]; simp
theorem fieldV2 {s : ByteArray} {x y : UInt8} (h : s.data.toList = [x, y]) : fieldV s = x.toNat + y.toNat * 256 := by
  have hs : s.size = 2 := by rw [size_list, h]; rfl
  unfold fieldV
  rw [if_neg (by omega), bt_at_list (i := 0) (A := []) (C := [y]) h rfl, bt_at_list (i := 1) (A := [x]) (C := []) h rfl, hs]; simp
theorem fieldV4 {s : ByteArray} {x y z u : UInt8} (h : s.data.toList = [x, y, z, u]) : fieldV s = x.toNat + y.toNat * 256 + z.toNat * 65536 + u.toNat * 16777216 := by
  have hs : s.size = 4 := by rw [size_list, h]; rfl
  unfold fieldV
  rw [if_neg (by omega), bt_at_list (i := 0) (A := []) (C := [y, z, u]) h rfl, bt_at_list (i := 1) (A := [x]) (C := [z, u]) h rfl, bt_at_list (i := 2) (A := [x, y]) (C := [u]) h rfl, bt_at_list (i := 3) (A := [x, y, z]) (C := []) h rfl, hs]; simp
theorem lowm (m : Int) : ((lowB m).toNat : Int) = m % 256 := by unfold lowB; rw [UInt8.toNat_ofNat']; omega
theorem field1 (n : Int) (h0 : 0 ≤ n) (h1 : n < 256) : fieldV ⟨[lowB n].toArray⟩ = n := by rw [fieldV1 (x := lowB n) rfl, low_val h0 h1]
theorem field2 (n : Int) (h0 : 0 ≤ n) (h1 : n ≤ 65535) : fieldV ⟨(le2 n).toArray⟩ = n := by
  rw [fieldV2 (x := lowB n) (y := lowB (n / 256)) (by simp [le2]), lowm, lowm]; omega
theorem field4 (n : Int) (h0 : 0 ≤ n) (h1 : n ≤ 4294967295) : fieldV ⟨(le4 n).toArray⟩ = n := by
  rw [fieldV4 (x := lowB n) (y := lowB (n / 256)) (z := lowB (n / 65536)) (u := lowB (n / 16777216)) (by simp [le4]), lowm, lowm, lowm, lowm]; omega
/-! ### numbers in few bytes -/
theorem viC_small {n : Int} (h0 : 0 ≤ n) (h1 : n < 16384) : viC n = viB n := by
  unfold viC viB
  simp only [viGo]
  by_cases c : n < 128
  · rw [if_neg (by omega), if_pos c]
  · rw [if_pos (by omega), if_neg (by omega), if_neg c]
theorem var_at {s : ByteArray} {A C : List UInt8} {n p : Int} (h0 : 0 ≤ n) (h1 : n < 16384) (h : s.data.toList = A ++ viB n ++ C) (hp : p = A.length) : varV s p = (n, p + (viB n).length, 0) := by
  have hs : s.size = A.length + (viB n).length + C.length := by rw [size_list, h]; simp; omega
  have hc := viC_small h0 h1
  unfold varV
  by_cases c : n < 128
  · have e : viB n = [lowB n] := by unfold viB; rw [if_pos c]
    rw [e] at h hs hc ⊢
    have hb : bt s (p + ((0 : Nat) : Int)) = n := by rw [bt_at_list (A := A) (x := lowB n) (C := C) (by rw [h]; simp) (by omega), low_val h0 (by omega)]
    have hx : s.extract p.toNat (p + ((0 : Nat) : Int) + 1).toNat = ⟨#[lowB n]⟩ := by
      have := ext_mid h
      rw [hp, Int.toNat_natCast, show ((A.length : Int) + ((0 : Nat) : Int) + 1).toNat = A.length + [lowB n].length by simp, this]
    simp only [vgo]
    rw [hb, if_pos (by simp at hs; omega), if_neg (by omega), hx]
    simp only [Nat.mul_zero, Int.pow_zero, Int.mul_one, Int.zero_add]
    rw [if_pos ⟨by omega, hc⟩]
    simp
  · have e : viB n = [lowB (n % 128 + 128), lowB (n / 128)] := by unfold viB; rw [if_neg c]
    rw [e] at h hs hc ⊢
    have hb : bt s (p + ((0 : Nat) : Int)) = n % 128 + 128 := by rw [bt_at_list (A := A) (x := lowB (n % 128 + 128)) (C := lowB (n / 128) :: C) (by rw [h]; simp) (by omega), low_val (by omega) (by omega)]
    have hb1 : bt s (p + ((0 + 1 : Nat) : Int)) = n / 128 := by rw [bt_at_list (A := A ++ [lowB (n % 128 + 128)]) (x := lowB (n / 128)) (C := C) (by rw [h]; simp) (by simp; omega), low_val (by omega) (by omega)]
    have hx : s.extract p.toNat (p + ((0 + 1 : Nat) : Int) + 1).toNat = ⟨#[lowB (n % 128 + 128), lowB (n / 128)]⟩ := by
      have := ext_mid h
      rw [hp, Int.toNat_natCast, show ((A.length : Int) + ((0 + 1 : Nat) : Int) + 1).toNat = A.length + [lowB (n % 128 + 128), lowB (n / 128)].length by simp; omega, this]
    have hv : (0 : Int) + (n % 128 + 128) % 128 * 2 ^ (7 * 0) + n / 128 * 2 ^ (7 * (0 + 1)) = n := by simp; omega
    simp only [vgo]
    rw [hb, hb1, if_pos (by simp at hs; omega), if_pos (by omega), if_pos (by simp at hs; omega), if_neg (by omega), hx, hv]
    rw [if_pos ⟨by omega, hc⟩]
    simp
    omega
/-! ### the table and the segments -/
theorem tab_len : ∀ m : List ByteArray, (m.flatMap (fun x => le2 (x.size : Int))).length = 2 * m.length
  | [] => rfl
  | x :: r => by rw [List.flatMap_cons, List.length_append, tab_len r]; simp [le2]; omega
theorem lens_at {s : ByteArray} {A C : List UInt8} (l : List ByteArray) (hl : ∀ x ∈ l, x.size ≤ 65535) (ho : ∀ x ∈ l, 9 ≤ x.size) (h : s.data.toList = A ++ l.flatMap (fun x => le2 x.size) ++ C) {p : Int} (hp : p = A.length) :
    ∀ i, i ≤ l.length → lens fieldV s i (p, false, []) = (p + 2 * (i : Int), false, (l.take i).map (fun x => (x.size : Int)))
  | 0, _ => by simp [lens]
  | i + 1, hi => by
    have hil : i < l.length := by omega
    have ih := lens_at l hl ho h hp i (by omega)
    have h2 : l.flatMap (fun x => le2 x.size) = (l.take i).flatMap (fun x => le2 x.size) ++ le2 (l[i].size : Int) ++ (l.drop (i + 1)).flatMap (fun x => le2 x.size) := by
      have e := List.take_append_drop i l
      rw [List.drop_eq_getElem_cons hil] at e
      refine (congrArg (fun m => m.flatMap (fun x => le2 (x.size : Int))) e.symm).trans ?_
      simp only [List.flatMap_append, List.flatMap_cons, List.append_assoc]
    have hlen : ∀ m : List ByteArray, (m.flatMap (fun x => le2 (x.size : Int))).length = 2 * m.length := by
      intro m; induction m with
      | nil => rfl
      | cons x r ih => rw [List.flatMap_cons, List.length_append, ih]; simp [le2]; omega
    have ht := take_at (s := s) (A := A ++ (l.take i).flatMap (fun x => le2 x.size)) (B := le2 (l[i].size : Int)) (C := (l.drop (i + 1)).flatMap (fun x => le2 x.size) ++ C) (by rw [h, h2]; simp) (i := p + 2 * (i : Int)) (n := 2)
      (by rw [List.length_append, hlen, List.length_take]; omega) (by simp [le2])
    have hx := hl _ (List.getElem_mem hil)
    have hy := ho _ (List.getElem_mem hil)
    rw [lens, ih, lenT]
    simp only []
    rw [ht]
    simp only []
    rw [field2 _ (by omega) (by omega), List.take_succ_eq_append_getElem hil]
    refine Prod.ext (by simp only []; omega) (Prod.ext ?_ (by rw [List.map_append]; rfl))
    simp [sizeOk]; omega
theorem segs_at {s : ByteArray} {C : List UInt8} : ∀ (l : List ByteArray) (A : List UInt8) (h : s.data.toList = A ++ l.flatMap (fun x => x.data.toList) ++ C) (p : Int) (hp : p = A.length) (acc : List ByteArray),
    (l.map (fun x => (x.size : Int))).foldl (textT s) (p, false, acc) = (p + ((l.flatMap (fun x => x.data.toList)).length : Int), false, acc ++ l)
  | [], A, h, p, hp, acc => by simp
  | x :: r, A, h, p, hp, acc => by
    have ht := take_at (s := s) (A := A) (B := x.data.toList) (C := r.flatMap (fun x => x.data.toList) ++ C) (by rw [h]; simp) hp (n := (x.size : Int)) (by rw [size_list])
    rw [List.map_cons, List.foldl_cons, textT]
    simp only []
    rw [ht]
    simp only []
    rw [segs_at (C := C) r (A ++ x.data.toList) (by rw [h]; simp) _ (by rw [List.length_append, hp, size_list]; omega)]
    have hx : (⟨x.data.toList.toArray⟩ : ByteArray) = x := ba_ext (by simp)
    rw [hx]
    refine Prod.ext ?_ (Prod.ext rfl (by simp))
    simp only [List.flatMap_cons, List.length_append, size_list]
    omega
theorem may_facts2 {c b s f : Int} {h t : ByteArray} {l : List ByteArray} (hm : mayOk c b s f h t l = true) : headOk c b s f h t = true ∧ (c = 1 ∨ c = 2) ∧ (b = 8 ∨ b = 16) ∧ 1 ≤ s ∧ s ≤ 64 ∧ 0 ≤ f ∧ f ≤ 4096 ∧ h.size ≤ 4096 ∧ t.size ≤ 4096 ∧ (l.length : Int) = many f s ∧ ∀ x ∈ l, 9 ≤ x.size ∧ x.size ≤ 65535 := by
  unfold mayOk at hm
  rw [Bool.and_eq_true, Bool.and_eq_true, decide_eq_true_eq, List.all_eq_true] at hm
  obtain ⟨h1, h2, h3⟩ := hm
  have h1' := of_decide_eq_true h1
  refine ⟨h1, h1'.1, h1'.2.1, h1'.2.2.1, h1'.2.2.2.1, h1'.2.2.2.2.1, h1'.2.2.2.2.2.1, h1'.2.2.2.2.2.2.1, h1'.2.2.2.2.2.2.2, h2, fun x hx => ?_⟩
  have := of_decide_eq_true (h3 x hx)
  omega
theorem to_ba (x : ByteArray) : (⟨x.data.toList.toArray⟩ : ByteArray) = x := ba_ext (by simp)
/-- What Put gave, Get gives back. -/
theorem back {c b sz f : Int} {h t : ByteArray} {l : List ByteArray} (hm : mayOk c b sz f h t l = true) {s : ByteArray} (hs : s.data.toList = putB c b sz f h t l) (hl : s.size ≤ 65536) : getT s = (c, b, sz, f, h, t, l, 0) := by
  obtain ⟨hh, hc, hb, hz1, hz2, hf1, hf2, hh2, ht2, hlen, hall⟩ := may_facts2 hm
  unfold putB headB at hs
  -- the pieces
  obtain ⟨TB, hTB⟩ : ∃ y, l.flatMap (fun x => le2 (x.size : Int)) = y := ⟨_, rfl⟩
  obtain ⟨SB, hSB⟩ : ∃ y, l.flatMap (fun x => x.data.toList) = y := ⟨_, rfl⟩
  obtain ⟨CB, hCB⟩ : ∃ y, sumB (headB c b sz f h t l) = y := ⟨_, rfl⟩
  have hCB' := hCB
  unfold headB at hCB'
  rw [hTB] at hs hCB'
  rw [hSB, hCB'] at hs
  have hCBl : CB.length = 4 := by rw [← hCB]; rfl
  obtain ⟨vF, hvF⟩ : ∃ y, viB f = y := ⟨_, rfl⟩
  obtain ⟨vH, hvH⟩ : ∃ y, viB (h.size : Int) = y := ⟨_, rfl⟩
  obtain ⟨vT, hvT⟩ : ∃ y, viB (t.size : Int) = y := ⟨_, rfl⟩
  rw [hvF, hvH, hvT] at hs
  have e0 : gR s = (⟨[68, 83, 67, 84].toArray⟩, 4, false) := take_at (A := []) (B := [68, 83, 67, 84]) (C := _) (by rw [hs]; rfl) rfl rfl
  have e1 : g1 s = (⟨[lowB c].toArray⟩, 5, false) := by
    unfold g1; rw [e0]; exact take_at (A := [68, 83, 67, 84]) (B := [lowB c]) (C := _) (by rw [hs]; rfl) rfl rfl
  have e2 : g2 s = (⟨[lowB b].toArray⟩, 6, false) := by
    unfold g2; rw [e1]; exact take_at (A := [68, 83, 67, 84, lowB c]) (B := [lowB b]) (C := _) (by rw [hs]; rfl) rfl rfl
  have e3 : g3 s = (⟨[lowB sz].toArray⟩, 7, false) := by
    unfold g3; rw [e2]; exact take_at (A := [68, 83, 67, 84, lowB c, lowB b]) (B := [lowB sz]) (C := _) (by rw [hs]; rfl) rfl rfl
  obtain ⟨P0, hP0⟩ : ∃ y, [68, 83, 67, 84, lowB c, lowB b, lowB sz] = y := ⟨_, rfl⟩
  have hP0l : P0.length = 7 := by rw [← hP0]; rfl
  rw [hP0] at hs
  have f1 : n1 s = (f, ((P0 ++ vF).length : Int), false) := by
    unfold n1; rw [e3]
    have hv := var_at (s := s) (A := P0) (n := f) (p := 7) hf1 (by omega) (by rw [hs, hvF]; simp only [List.append_assoc]; rfl) (by rw [hP0l]; rfl)
    simp only []
    rw [hv, numT, if_neg (by simp), hvF]
    simp [hP0l]
  have f2 : n2 s = ((h.size : Int), ((P0 ++ vF ++ vH).length : Int), false) := by
    unfold n2; rw [f1]
    have hv := var_at (s := s) (A := P0 ++ vF) (n := (h.size : Int)) (p := ((P0 ++ vF).length : Int)) (by omega) (by omega) (by rw [hs, hvH]; simp only [List.append_assoc]; rfl) rfl
    simp only []
    rw [hv, numT, if_neg (by simp), hvH]
    simp only [List.length_append]; refine Prod.ext rfl (Prod.ext ?_ rfl); simp only []; omega
  have f3 : n3 s = ((t.size : Int), ((P0 ++ vF ++ vH ++ vT).length : Int), false) := by
    unfold n3; rw [f2]
    have hv := var_at (s := s) (A := P0 ++ vF ++ vH) (n := (t.size : Int)) (p := ((P0 ++ vF ++ vH).length : Int)) (by omega) (by omega) (by rw [hs, hvT]; simp only [List.append_assoc]; rfl) rfl
    simp only []
    rw [hv, numT, if_neg (by simp), hvT]
    simp only [List.length_append]; refine Prod.ext rfl (Prod.ext ?_ rfl); simp only []; omega
  have j1 : t1 s = (h, ((P0 ++ vF ++ vH ++ vT ++ h.data.toList).length : Int), false) := by
    unfold t1; rw [f2, f3]
    simp only []
    rw [take_at (A := P0 ++ vF ++ vH ++ vT) (B := h.data.toList) (C := t.data.toList ++ TB ++ CB ++ SB) (by rw [hs]; simp only [List.append_assoc]) rfl (by rw [size_list]), to_ba]
    refine Prod.ext rfl (Prod.ext ?_ rfl); rw [size_list]; simp only [List.length_append]; omega
  have j2 : t2 s = (t, ((P0 ++ vF ++ vH ++ vT ++ h.data.toList ++ t.data.toList).length : Int), false) := by
    unfold t2; rw [j1, f3]
    simp only []
    rw [take_at (A := P0 ++ vF ++ vH ++ vT ++ h.data.toList) (B := t.data.toList) (C := TB ++ CB ++ SB) (by rw [hs]; simp only [List.append_assoc]) rfl (by rw [size_list]), to_ba]
    refine Prod.ext rfl (Prod.ext ?_ rfl); rw [size_list]; simp only [List.length_append]; omega
  have k1 : fieldV ⟨[lowB c].toArray⟩ = c := field1 c (by omega) (by omega)
  have k2 : fieldV ⟨[lowB b].toArray⟩ = b := field1 b (by omega) (by omega)
  have k3 : fieldV ⟨[lowB sz].toArray⟩ = sz := field1 sz (by omega) (by omega)
  obtain ⟨A, hA⟩ : ∃ y, P0 ++ vF ++ vH ++ vT ++ h.data.toList ++ t.data.toList = y := ⟨_, rfl⟩
  have hs2 : s.data.toList = A ++ TB ++ (CB ++ SB) := by rw [hs, ← hA]; simp only [List.append_assoc]
  have hTl : TB.length = 2 * l.length := by
    rw [← hTB]; exact tab_len l
  have m1 : lensOf s = (((A ++ TB).length : Int), false, l.map (fun x => (x.size : Int))) := by
    unfold lensOf
    rw [j2, f1, e3, k3, ← hlen, Int.toNat_natCast, hA]
    rw [lens_at (A := A) (C := CB ++ SB) l (fun x hx => (hall x hx).2) (fun x hx => (hall x hx).1) (by rw [hs2, hTB]) rfl l.length (Nat.le_refl _), List.take_length]
    refine Prod.ext ?_ rfl; rw [List.length_append, hTl]; simp only []; omega
  have hH : headB c b sz f h t l = A ++ TB := by
    unfold headB; rw [hTB, hvF, hvH, hvT, hP0, ← hA]
  have m2 : takeT s (lensOf s).1 (lensOf s).2.1 4 = (⟨CB.toArray⟩, ((A ++ TB ++ CB).length : Int), false) := by
    rw [m1]; simp only []
    rw [take_at (A := A ++ TB) (B := CB) (C := SB) (by rw [hs2]; simp only [List.append_assoc]) rfl (by rw [hCBl]; rfl)]
    refine Prod.ext rfl (Prod.ext ?_ rfl); simp only [List.length_append, hCBl]; omega
  have hcr := crcOf_lt ((A ++ TB).map UInt8.toNat) (by intro x hx; obtain ⟨y, -, rfl⟩ := List.mem_map.1 hx; exact y.toNat_lt)
  have hsum : fieldV ⟨CB.toArray⟩ = ((crcOf ((A ++ TB).map UInt8.toNat) : Nat) : Int) := by
    rw [← hCB, hH]; exact field4 _ (by omega) (by omega)
  have hpre : nats (s.extract 0 (A ++ TB).length) = (A ++ TB).map UInt8.toNat := by
    unfold nats; rw [ext_list, hs2]; rw [List.drop_zero, ← List.append_assoc, List.append_assoc (A ++ TB), List.take_left']; rfl
  unfold getT
  rw [if_neg (by omega), e0, if_neg (fun h => h (by rw [ByteArray.toList_eq])), j2, if_neg (by simp), e1, e2, e3, f1, j1, k1, k2, k3, if_neg (by simp [hh]), m2, m1]
  unfold restT
  rw [if_neg (by simp)]
  simp only []
  rw [hsum, Int.toNat_natCast, hpre, if_neg (by simp)]
  rw [segs_at (s := s) (C := []) l (A ++ TB ++ CB) (by rw [hs2, hSB]; simp only [List.append_assoc, List.append_nil]) _ rfl []]
  unfold lastT
  rw [if_neg (by simp), if_neg (by simp only [ne_eq, Decidable.not_not]; rw [hSB, size_list, hs2]; simp only [List.length_append]; omega)]
  simp only []
  rw [k1, k2, k3]
  rfl
end Go.Proofs.Ytokegkpbbhegpaa
