/- StreamLoose, walked. -/
import Derived.Test.YtokegkpbbhegpaaWHead
import Derived.Test.YtokegkpbbhegpaaPLoose
import Derived.Test.YtokegkpbbhegpaaPSame
namespace Go.Proofs.Ytokegkpbbhegpaa.PS
open Go.RowKit Go.Proofs.YtokegkpbbhegpaaW.PrintWords Go.Proofs.YtokegkpbbhegpaaW.PrintLast Go.Proofs.YtokegkpbbhegpaaW.PrintMore Go.Proofs.Ytokegkpbbhegpaa.L
set_option linter.unusedVariables false
set_option linter.unusedSimpArgs false

/-- A block of texts, read. -/
theorem C_of_BC {w : World} {g : Nat} {l : List ByteArray} {t : TypeId} (h : BC w g t (l.map Value.string)) (hn : l.length ≤ 9223372036854775807) : Kd.C Kd.string w (some ⟨g, 0, none⟩) l.length l := by
  refine Kd.C_of_reads (enc := Value.string) (d := ByteArray.empty) ⟨rfl, hn, fun hp => ⟨_, rfl, fun j hj => ?_⟩⟩
  rw [show (Addr.add ⟨g, 0, none⟩ j) = ⟨g, j, none⟩ from by unfold Addr.add; split <;> simp_all, h.cell j]
  simp [List.getD_eq_getElem?_getD, List.getElem?_eq_getElem hj]
set_option maxHeartbeats 4000000 in
set_option maxRecDepth 100000 in
theorem loose_yes (a b : ByteArray) (w : World) (ha : 9 ≤ a.size) (hb : 9 ≤ b.size) (ha1 : a.size ≤ 60) (hb1 : b.size ≤ 60) :
    Calls Try.prog 6 #[.string a, .string b] w fun e w' => e = .returned (.bool true) ∧ Below w.heap.size w w' := by
  have hm : ∀ x y : ByteArray, x.size = a.size → y.size = b.size → mayOk 1 8 4 7 headS tailS [x, y] = true := fun x y hx hy => by
    have : headOk 1 8 4 7 headS tailS = true := by decide +kernel
    unfold mayOk
    rw [this]
    simp [sizeOk, many]; omega
  obtain ⟨S, hS⟩ : ∃ S : ByteArray, (⟨(putB 1 8 4 7 headS tailS [a, b]).toArray⟩ : ByteArray) = S := ⟨_, rfl⟩
  obtain ⟨S2, hS2⟩ : ∃ S2 : ByteArray, (⟨(putB 1 8 4 7 headS tailS [turn77 a, turn77 b]).toArray⟩ : ByteArray) = S2 := ⟨_, rfl⟩
  have hx := loose_put (S := S) (by rw [← hS])
  rw [hS2] at hx
  have hget : stream_Get.f S = some (1, 8, 4, 7, headS, tailS, [a, b], 0) := by
    refine congrArg some (back (hm a b rfl rfl) (s := S) (by rw [← hS]) ?_)
    rw [size_list, ← hS]
    have := put_len (hm a b rfl rfl) (n := 120) (by simp [← size_list]; omega)
    simp only []; omega
  have hget2 : stream_Get.f S2 = some (1, 8, 4, 7, headS, tailS, [turn77 a, turn77 b], 0) := by
    refine congrArg some (back (hm _ _ (turn77_size a) (turn77_size b)) (s := S2) (by rw [← hS2]) ?_)
    rw [size_list, ← hS2]
    have := put_len (hm _ _ (turn77_size a) (turn77_size b)) (n := 120) (by simp [← size_list, turn77_size]; omega)
    simp only []; omega
  have hput : stream_Put.f 1 8 4 7 headS tailS [a, b] = some (S, 0) := by
    unfold stream_Put.f; rw [if_pos (by simp), if_pos (hm a b rfl rfl), if_pos (hm a b rfl rfl), hS]
  have hsame : descantlaw0_SameStream.f 9 1 8 4 7 headS tailS [a, b] 1 8 4 7 headS tailS [a, b] = some true := by
    rw [same_stream (by simp) (by simp)]; simp
  have hsz : a.size + b.size ≤ S.size := by
    rw [size_list S, ← hS]; unfold putB; simp; omega
  have hsz2 : S.size ≤ 20124 := by
    rw [size_list, ← hS]
    have := put_len (hm a b rfl rfl) (n := 120) (by simp [← size_list]; omega)
    simp only []; omega
  have hgiv := Lib.hid given_is
  replace hput := Lib.hid hput
  replace hget := Lib.hid hget
  replace hget2 := Lib.hid hget2
  replace hsame := Lib.hid hsame
  replace hx := Lib.hid hx
  clear hm hS hS2
  have t1 := Lib.hid (turn77_size a)
  have t2 := Lib.hid (turn77_size b)
  generalize turn77 a = a2 at *
  generalize turn77 b = b2 at *
  generalize headS = HS at *
  generalize tailS = TS at *
  generalize [segS0, segS1] = L2 at *
  have da : decide ((a.size : Int) < 9) = false := decide_eq_false (by omega)
  have db : decide ((b.size : Int) < 9) = false := decide_eq_false (by omega)
  have dc : decide (60 < (a.size : Int)) = false := decide_eq_false (by omega)
  have dd : decide (60 < (b.size : Int)) = false := decide_eq_false (by omega)
  go_enter Try.func6, Try.ntmps6
  go_wp2_with (first
    | (go_at_call 16; refine (descantlaw23_awake.calls _ _ rfl).mono ?_; rintro e w0 ⟨rfl, hb0⟩)
    | (go_at_call 17; refine (descantlaw23_given.calls _ _ _ _ _ _ _ _ hgiv.out).mono ?_; rintro e w1 ⟨v6, rfl, hV1', hb1⟩; obtain ⟨A1, c1, e1⟩ := Kd.R_slice hV1'; subst e1; have hB1 := below_next hb0 hb1; clear hb0 hb1 hV1')
    | (go_at_call 9; have hguard := hB1; have hX := BC.alloc (BC.new w1 [.int .i64 1, .int .i64 8, .int .i64 4, .int .i64 7, .string HS, .string TS, .slice (some ⟨w1.heap.size + 1, 0, none⟩) 2 2] 26) (.cells #[.string a, .string b] 9); have hL := BC.newAt (w := w1.alloc (.cells #[.int .i64 1, .int .i64 8, .int .i64 4, .int .i64 7, .string HS, .string TS, .slice (some ⟨w1.heap.size + 1, 0, none⟩) 2 2] 26)) (g := w1.heap.size + 1) (cs := [.string a, .string b]) (t := 9) (by simp); refine (stream_Put.calls _ _ _ _ _ _ (some ⟨w1.heap.size + 1, 0, none⟩) 2 [a, b] _ _ _ (C_of_BC (l := [a, b]) hL (by simp)) (by simp) hput.out).mono ?_; rintro e w2 ⟨rfl, hb2⟩; have hB2 := below_next (L.below_alloc (L.below_alloc hB1 _) _) hb2; have hX2 := BC.below hX hb2; have hL2 := BC.below hL hb2; clear hb2 hX hL hB1 hguard)
    | (go_at_call 11; have hguard := hX2; clear hguard; refine (stream_Get.calls _ _ _ _ _ _ _ _ _ _ hget.out).mono ?_; rintro e w3 ⟨v3, rfl, hV3, hb3⟩; have hB3 := below_next hB2 hb3; have hX3 := BC.below hX2 hb3; have hL3 := BC.below hL2 hb3; clear hb3 hX2 hL2 hB2; obtain ⟨A3, c3, e3⟩ := Kd.R_slice hV3; subst e3; have hY3 := BC.new w3 [.int .i64 1, .int .i64 8, .int .i64 4, .int .i64 7, .string HS, .string TS, .slice A3 2 c3] 26; replace hX3 := BC.alloc hX3 (.cells #[.int .i64 1, .int .i64 8, .int .i64 4, .int .i64 7, .string HS, .string TS, .slice A3 2 c3] 26); replace hL3 := BC.alloc hL3 (.cells #[.int .i64 1, .int .i64 8, .int .i64 4, .int .i64 7, .string HS, .string TS, .slice A3 2 c3] 26); replace hV3 := Kd.R_alloc hV3 (.cells #[.int .i64 1, .int .i64 8, .int .i64 4, .int .i64 7, .string HS, .string TS, .slice A3 2 c3] 26); replace hB3 := L.below_alloc hB3 (.cells #[.int .i64 1, .int .i64 8, .int .i64 4, .int .i64 7, .string HS, .string TS, .slice A3 2 c3] 26))
    | ((with_reducible refine gate_dst (N := 50) rfl ?_); refine bytes_event rfl (N := 50) rfl 9 44 5 _ rfl S rfl Try.underlying9 Try.underlying44 Try.underlying5 ?_; intro g4 c4 w4 hg4 hM4 hb4; have hX4 := BC.below hX3 hb4; have hL4 := BC.below hL3 hb4; have hY4 := BC.below hY3 hb4; have hV4 := Kd.R_below hV3 hb4; have hB4 := below_next hB3 hb4; have hB3' := hg4 ▸ hB3.size; clear hg4 hb4 hX3 hL3 hY3 hV3 hB3))

  obtain ⟨K, hK⟩ : ∃ K, S.size - a.size - b.size = K := ⟨_, rfl⟩
  obtain ⟨n, hn⟩ : ∃ n, a.size + b.size = n := ⟨_, rfl⟩
  have hKn : K + n = S.size := by omega
  have hge : w.heap.size ≤ g4 := by have := hB3'; omega
  rw [hK, hn] at hx
  go_loopg [11] n (fun kq v11 W => ∃ i j : Nat, v11 = .int .i64 (j : Int) ∧ j = K + i ∧ i + kq = n ∧ M8 W g4 (xr (nats S) K (List.replicate i 77)) ∧ BC W w1.heap.size 26 [.int .i64 1, .int .i64 8, .int .i64 4, .int .i64 7, .string HS, .string TS, .slice (some ⟨w1.heap.size + 1, 0, none⟩) 2 2] ∧ BC W (w1.heap.size + 1) 9 [.string a, .string b] ∧ BC W w3.heap.size 26 [.int .i64 1, .int .i64 8, .int .i64 4, .int .i64 7, .string HS, .string TS, .slice A3 2 c3] ∧ Kd.R Kd.string 9 W w2.heap.size (fun _ => True) (.slice A3 2 c3) [a, b] ∧ Below w.heap.size w W)
  case atStart => exact ⟨0, K, by congr 1; omega, by omega, by omega, hM4, hX4, hL4, hY4, hV4, hB4⟩
  case round =>
    clear hM4 hX4 hL4 hY4 hV4 hB4
    obtain ⟨i, j, rfl, hji, hi, hMi, hXi, hLi, hYi, hVi, hBi⟩ := hrel
    by_cases c1 : i < n
    · have d1 : decide ((j : Int) < (S.size : Int)) = true := decide_eq_true (by omega)
      have d0 : decide ((0 : Int) ≤ (j : Int)) = true := decide_eq_true (by omega)
      have hj5 : (j : Int) + 1 ≤ 30000 := by omega
      have hl : (xr (nats S) K (List.replicate i 77)).length = S.size := by rw [xr_length, nats_length]
      have hj : j < (xr (nats S) K (List.replicate i 77)).length := by omega
      obtain ⟨x, hxe⟩ : ∃ x, (xr (nats S) K (List.replicate i 77)).getD j 0 = x := ⟨_, rfl⟩
      have hxe' : (xr (nats S) K (List.replicate i 77))[j]? = some x := by
        rw [List.getElem?_eq_getElem hj, ← hxe, List.getD_eq_getElem?_getD, List.getElem?_eq_getElem hj]; rfl
      have hx256 : x < 256 := xr_lt _ _ _ (nats_lt S) (by intro e he; rw [List.eq_of_mem_replicate he]; decide) x (List.mem_of_getElem? hxe')
      have hstep : xr (nats S) K (List.replicate (i + 1) 77) = (xr (nats S) K (List.replicate i 77)).set j (x ^^^ 77) := by
        rw [List.replicate_succ', xr_snoc, List.length_replicate, ← hji, hxe]
      have hxor : bits .xor .u8 (x : Int) 77 = ((x ^^^ 77 : Nat) : Int) := xor8 x 77 hx256 (by decide)
      have hcell := hMi.cell hxe'
      have hfree := hMi.free hj
      have hset := hMi.set j (x ^^^ 77)
      rw [← hstep] at hset
      have p0 : ((0 : Int) ≤ (j : Int)) = True := eq_true (by omega)
      have p1 : ((j : Int) < (S.size : Int)) = True := eq_true (by omega)
      have hVs := R_set8 (j := j) (u := .int .u8 ((x ^^^ 77 : Nat) : Int)) hVi rfl hMi
      have hXs := BC.far hXi (p := ⟨g4, j, none⟩) (hMi.ne hXi) (.int .u8 ((x ^^^ 77 : Nat) : Int))
      have hLs := BC.far hLi (p := ⟨g4, j, none⟩) (hMi.ne hLi) (.int .u8 ((x ^^^ 77 : Nat) : Int))
      have hYs := BC.far hYi (p := ⟨g4, j, none⟩) (hMi.ne hYi) (.int .u8 ((x ^^^ 77 : Nat) : Int))
      have hBs := hBi.setCell (p := ⟨g4, j, none⟩) hge (.int .u8 ((x ^^^ 77 : Nat) : Int))
      replace hstep := Lib.hid hstep
      replace hxe := Lib.hid hxe
      replace hxe' := Lib.hid hxe'
      replace hl := Lib.hid hl
      replace hn := Lib.hid hn
      replace hji := Lib.hid hji
      replace hK := Lib.hid hK
      clear hMi hXi hLi hYi hVi hBi
      go_wp2
      obtain ⟨k, rfl⟩ : ∃ k, gk = k + 1 := ⟨gk - 1, by omega⟩
      go_roundg k
      case measure => omega
      case rel => exact ⟨i + 1, j + 1, by simp, by have := hji.out; omega, by omega, hset, hXs, hLs, hYs, hVs, hBs⟩
    · obtain rfl : i = n := by omega
      have dN : (j < S.size) = False := eq_false (by omega)
      have d1 : decide ((j : Int) < (S.size : Int)) = false := decide_eq_false (by omega)
      have d0 : decide ((0 : Int) ≤ (j : Int)) = true := decide_eq_true (by omega)
      have hcv := hMi.text (c := c4) (P := Try.prog) (src := 44) (dst := 9) Try.underlying44 Try.underlying5 Try.underlying9 (by rw [xr_length, nats_length]; omega)
      rw [hx.out, xr_length, nats_length] at hcv
      have ea : decide ((a2.size : Int) = (a.size : Int)) = true := decide_eq_true (by rw [t1.out])
      have ea' : ((a2.size : Int) == (a.size : Int)) = true := by rw [t1.out]; simp
      have eb' : ((b2.size : Int) == (b.size : Int)) = true := by rw [t2.out]; simp
      replace hn := Lib.hid hn
      replace hji := Lib.hid hji
      replace hK := Lib.hid hK
      have hLi0 := C_of_BC (l := [a, b]) hLi (by simp)
      clear hLi hMi
      have hX := hXi
      have hY := hYi
      have hV := hVi
      have hB := hBi
      clear hXi hYi hVi hBi
      have hL := hLi0
      go_wp2_with (first
        | (go_at_call 11; have hguard := hB; clear hguard; refine (stream_Get.calls _ _ _ _ _ _ _ _ _ _ hget2.out).mono ?_; rintro e w5 ⟨v5, rfl, hW, hb5⟩; replace hX := BC.below hX hb5; replace hY := BC.below hY hb5; replace hV := Kd.R_below hV hb5; replace hL := Kd.C_below hL hb5; replace hB := below_next hB hb5; clear hb5 hcv; obtain ⟨g5, c5, e5, -, -, -⟩ := Kd.R_form hW (by simp); subst e5; have hZ := BC.new w5 [.int .i64 1, .int .i64 8, .int .i64 4, .int .i64 7, .string HS, .string TS, .slice (some ⟨g5, 0, none⟩) 2 c5] 26; replace hX := BC.alloc hX (.cells #[.int .i64 1, .int .i64 8, .int .i64 4, .int .i64 7, .string HS, .string TS, .slice (some ⟨g5, 0, none⟩) 2 c5] 26); replace hY := BC.alloc hY (.cells #[.int .i64 1, .int .i64 8, .int .i64 4, .int .i64 7, .string HS, .string TS, .slice (some ⟨g5, 0, none⟩) 2 c5] 26); replace hV := Kd.R_alloc hV (.cells #[.int .i64 1, .int .i64 8, .int .i64 4, .int .i64 7, .string HS, .string TS, .slice (some ⟨g5, 0, none⟩) 2 c5] 26); replace hW := Kd.R_alloc hW (.cells #[.int .i64 1, .int .i64 8, .int .i64 4, .int .i64 7, .string HS, .string TS, .slice (some ⟨g5, 0, none⟩) 2 c5] 26); replace hL := Kd.C_alloc hL (.cells #[.int .i64 1, .int .i64 8, .int .i64 4, .int .i64 7, .string HS, .string TS, .slice (some ⟨g5, 0, none⟩) 2 c5] 26); replace hB := L.below_alloc hB (.cells #[.int .i64 1, .int .i64 8, .int .i64 4, .int .i64 7, .string HS, .string TS, .slice (some ⟨g5, 0, none⟩) 2 c5] 26))
        | (go_at_call 13; have hguard := hZ; clear hguard; refine (descantlaw0_Num.calls _ _ _ rfl).mono ?_; rintro e w6 ⟨rfl, hd⟩; replace hX := BC.below hX hd.below; replace hY := BC.below hY hd.below; replace hZ := BC.below hZ hd.below; replace hV := Kd.R_below hV hd.below; replace hW := Kd.R_below hW hd.below; replace hL := Kd.C_below hL hd.below; replace hB := below_next hB hd.below; clear hd; have x0 := BC.at_ hX (o := 0) rfl; have y0 := BC.at_ hY (o := 0) rfl; have z0 := BC.at_ hZ (o := 0) rfl; have x1 := BC.at_ hX (o := 1) rfl; have y1 := BC.at_ hY (o := 1) rfl; have z1 := BC.at_ hZ (o := 1) rfl; have x2 := BC.at_ hX (o := 2) rfl; have y2 := BC.at_ hY (o := 2) rfl; have z2 := BC.at_ hZ (o := 2) rfl; have x3 := BC.at_ hX (o := 3) rfl; have y3 := BC.at_ hY (o := 3) rfl; have z3 := BC.at_ hZ (o := 3) rfl; have x4 := BC.at_ hX (o := 4) rfl; have y4 := BC.at_ hY (o := 4) rfl; have z4 := BC.at_ hZ (o := 4) rfl; have x5 := BC.at_ hX (o := 5) rfl; have y5 := BC.at_ hY (o := 5) rfl; have z5 := BC.at_ hZ (o := 5) rfl; have x6 := BC.at_ hX (o := 6) rfl; have y6 := BC.at_ hY (o := 6) rfl; have z6 := BC.at_ hZ (o := 6) rfl; have q0 : _ = some (Value.string a2) := (Kd.R_celln (⟨#[]⟩ : ByteArray) hW (0 : Int) (by omega) (by simp)).1; have q1 : _ = some (Value.string b2) := (Kd.R_celln (⟨#[]⟩ : ByteArray) hW (1 : Int) (by omega) (by simp)).1; rw [show (0 : Int).toNat = 0 from rfl] at q0; rw [show (1 : Int).toNat = 1 from rfl] at q1)
        | (go_at_call 14; refine (descantlaw0_SameStream.calls 9 _ _ _ _ _ _ (some ⟨w1.heap.size + 1, 0, none⟩) 2 [a, b] _ _ _ _ _ _ A3 c3 [a, b] _ _ hL (Nat.le_refl _) (Kd.R_reads' hV).2.2 (Kd.R_reads' hV).2.1 hsame.out).mono ?_; rintro e w7 ⟨rfl, hd⟩; replace hX := BC.below hX hd; replace hY := BC.below hY hd; replace hZ := BC.below hZ hd; replace hV := Kd.R_below hV hd; replace hW := Kd.R_below hW hd; replace hL := Kd.C_below hL hd; replace hB := below_next hB hd; clear hd))
      go_ret
      exact ⟨rfl, hB⟩
set_option maxHeartbeats 4000000 in
set_option maxRecDepth 100000 in
theorem loose_no (a b : ByteArray) (w : World) (h : a.size < 9 ∨ b.size < 9 ∨ 60 < a.size ∨ 60 < b.size) :
    Calls Try.prog 6 #[.string a, .string b] w fun e w' => e = .returned (.bool true) ∧ Below w.heap.size w w' := by
  have hgiv := Lib.hid given_is
  generalize headS = HS at *
  generalize tailS = TS at *
  generalize [segS0, segS1] = L2 at *
  have h4 : decide ((a.size : Int) < 9) = true ∨ (decide ((a.size : Int) < 9) = false ∧ decide ((b.size : Int) < 9) = true) ∨ (decide ((a.size : Int) < 9) = false ∧ decide ((b.size : Int) < 9) = false ∧ decide (60 < (a.size : Int)) = true) ∨ (decide ((a.size : Int) < 9) = false ∧ decide ((b.size : Int) < 9) = false ∧ decide (60 < (a.size : Int)) = false ∧ decide (60 < (b.size : Int)) = true) := by
    simp only [decide_eq_true_eq, decide_eq_false_iff_not]; omega
  clear h
  rcases h4 with h1 | ⟨h1, h2⟩ | ⟨h1, h2, h3⟩ | ⟨h1, h2, h3, h4⟩
  all_goals
    go_enter Try.func6, Try.ntmps6
    go_wp2_with (first
      | (go_at_call 16; refine (descantlaw23_awake.calls _ _ rfl).mono ?_; rintro e w0 ⟨rfl, hb0⟩)
      | (go_at_call 17; refine (descantlaw23_given.calls _ _ _ _ _ _ _ _ hgiv.out).mono ?_; rintro e w1 ⟨v6, rfl, hV1', hb1⟩; obtain ⟨A1, c1, e1⟩ := Kd.R_slice hV1'; subst e1; have hB1 := below_next hb0 hb1; clear hb0 hb1 hV1'))
    go_ret
    exact ⟨rfl, L.below_alloc hB1 _⟩
theorem loose_walk (a b : ByteArray) (w : World) : Calls Try.prog 6 #[.string a, .string b] w fun e w' => e = .returned (.bool true) ∧ Below w.heap.size w w' := by
  by_cases h : a.size < 9 ∨ b.size < 9 ∨ 60 < a.size ∨ 60 < b.size
  · exact loose_no a b w h
  · exact loose_yes a b w (by omega) (by omega) (by omega) (by omega)
end Go.Proofs.Ytokegkpbbhegpaa.PS
