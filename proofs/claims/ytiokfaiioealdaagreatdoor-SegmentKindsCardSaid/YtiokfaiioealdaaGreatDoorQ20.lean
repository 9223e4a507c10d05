/- The texts behind the row, joined: WLine WFun WRows WSide PSide. -/
import Derived.Test.YtiokfaiioealdaaGreatDoorQ19
import Derived.Test.YtiokfaiioealdaaGreatDoorQ17
import Derived.Test.YtiokfaiioealdaaGreatDoorQ18
import Derived.Test.YtiokfaiioealdaaGreatDoorQ16
namespace Go.Proofs.YtiokfaiioealdaaGreatDoor
open Go.RowKit Go.Proofs.YtiokfaiioealdaaGreatDoorW.PrintWords Go.Proofs.YtiokfaiioealdaaGreatDoorW.PrintLast Go.Proofs.YtiokfaiioealdaaGreatDoorW.PrintMore Go.Proofs.YtiokfaiioealdaaGreatDoor.L
set_option linter.unusedVariables false
set_option linter.unusedSimpArgs false
theorem fold_num (x : Int) (w : World) : Calls Tryz.prog 118 #[.int .i64 x] w fun e w' => e = .returned (.bool (numOk x)) ∧ ∃ k, w' = w.drewN k := by
  unfold numOk
  by_cases c : -16777216 ≤ x
  · have c1 := eq_true c
    by_cases d : x ≤ 16777216
    · have d1 := eq_true d
      rw [decide_eq_true ⟨c, d⟩]
      go_enter Tryz.func118, Tryz.ntmps118
      go_wp2_with (fail)
      go_ret
      exact ⟨rfl, 0, rfl⟩
    · have d1 := eq_false d
      rw [decide_eq_false (fun h => d h.2)]
      go_enter Tryz.func118, Tryz.ntmps118
      go_wp2_with (fail)
      go_ret
      exact ⟨rfl, 0, rfl⟩
  · have c1 := eq_false c
    rw [decide_eq_false (fun h => c h.1)]
    go_enter Tryz.func118, Tryz.ntmps118
    go_wp2_with (fail)
    go_ret
    exact ⟨rfl, 0, rfl⟩
def put1 (x g : Int) : Int × Int := (wrap64 (x - g), x)
def get1 (x g : Int) : Int × Int := (wrap64 (x + g), wrap64 (x + g))
theorem line_put1 (x g : Int) (w : World) : Calls Tryz.prog 147 #[.int .i64 x, .int .i64 g] w fun e w' => e = .returned (.tuple #[.int .i64 (put1 x g).1, .int .i64 (put1 x g).2]) ∧ ∃ k, w' = w.drewN k := by
  go_enter Tryz.func147, Tryz.ntmps147
  go_wp2_with (fail)
  go_ret2
  exact ⟨rfl, 0, rfl⟩
theorem line_get1 (x g : Int) (w : World) : Calls Tryz.prog 181 #[.int .i64 x, .int .i64 g] w fun e w' => e = .returned (.tuple #[.int .i64 (get1 x g).1, .int .i64 (get1 x g).2]) ∧ ∃ k, w' = w.drewN k := by
  go_enter Tryz.func181, Tryz.ntmps181
  go_wp2_with (fail)
  go_ret2
  exact ⟨rfl, 0, rfl⟩
def turnT (f : Int → Int → Int × Int) : Ch → List Int → Option (List Int)
  | _, [] => some []
  | c, x :: t => if smpOk (f x (chG c)).2 && numOk x then (turnT f (chL c (f x (chG c)).2) t).map ((f x (chG c)).1 :: ·) else none
def lineR (w w' : World) (e : Ending) : Option (List Int) → Prop
  | some ys => ∃ v, e = .returned (.tuple #[v, .int .i64 0]) ∧ Kd.R (Kd.int .i64) 3 w' w.heap.size (fun _ => True) v ys ∧ Below w.heap.size w w'
  | none => e = .returned (.tuple #[.slice none 0 0, .int .i64 1600]) ∧ Below w.heap.size w w'
set_option maxHeartbeats 8000000 in
set_option maxRecDepth 100000 in
theorem line_turn (F : Nat) (f : Int → Int → Int × Int) (hF : (F = 147 ∧ f = put1) ∨ (F = 181 ∧ f = get1))
    (xs : List Int) (A : Option Addr) (cap : Nat) (w : World) (hC : Kd.C (Kd.int .i64) w A xs.length xs) (hc : xs.length ≤ cap) (hl : xs.length ≤ 256) :
    Calls Tryz.prog 146 #[.slice A xs.length cap, .func (Fn.func F) #[] #[]] w fun e w' => lineR w w' e (turnT f ch0 xs) := by
  obtain ⟨T0, hT0⟩ : ∃ T0, turnT f ch0 xs = T0 := ⟨_, rfl⟩
  rw [hT0]
  have d1 : decide (256 < (xs.length : Int)) = false := decide_eq_false (by omega)
  have hC0 := Lib.hid hC
  have hFf : ∀ x g W, Calls Tryz.prog F #[.int .i64 x, .int .i64 g] W fun e w' => e = .returned (.tuple #[.int .i64 (f x g).1, .int .i64 (f x g).2]) ∧ ∃ k, w' = W.drewN k := by
    rcases hF with ⟨rfl, rfl⟩ | ⟨rfl, rfl⟩
    · exact line_put1
    · exact line_get1
  have HF := Lib.hid hFf
  have hX0 : L.BC (w.alloc (.cells #[.int .i64 0, .int .i64 0, .int .i64 0, .int .i64 0, .int .i64 0, .int .i64 0, .int .i64 0, .int .i64 0, .int .i64 0, .int .i64 0, .int .i64 0, .int .i64 0, .int .i64 0, .int .i64 0, .int .i64 0, .int .i64 0, .int .i64 0, .int .i64 0, .int .i64 0, .int .i64 0, .int .i64 0, .int .i64 0, .int .i64 0, .int .i64 0, .int .i64 0, .int .i64 0, .int .i64 0, .int .i64 0, .int .i64 0, .int .i64 0, .int .i64 0, .int .i64 0, .int .i64 0] 182)) w.heap.size 182 (chC ch0) := L.BC.new w zeroC 182
  have hB0 := L.below_alloc (Below.refl w.heap.size w) (.cells #[.int .i64 0, .int .i64 0, .int .i64 0, .int .i64 0, .int .i64 0, .int .i64 0, .int .i64 0, .int .i64 0, .int .i64 0, .int .i64 0, .int .i64 0, .int .i64 0, .int .i64 0, .int .i64 0, .int .i64 0, .int .i64 0, .int .i64 0, .int .i64 0, .int .i64 0, .int .i64 0, .int .i64 0, .int .i64 0, .int .i64 0, .int .i64 0, .int .i64 0, .int .i64 0, .int .i64 0, .int .i64 0, .int .i64 0, .int .i64 0, .int .i64 0, .int .i64 0, .int .i64 0] 182)
  have hR0 : Kd.R (Kd.int .i64) 3 (w.alloc (.cells #[.int .i64 0, .int .i64 0, .int .i64 0, .int .i64 0, .int .i64 0, .int .i64 0, .int .i64 0, .int .i64 0, .int .i64 0, .int .i64 0, .int .i64 0, .int .i64 0, .int .i64 0, .int .i64 0, .int .i64 0, .int .i64 0, .int .i64 0, .int .i64 0, .int .i64 0, .int .i64 0, .int .i64 0, .int .i64 0, .int .i64 0, .int .i64 0, .int .i64 0, .int .i64 0, .int .i64 0, .int .i64 0, .int .i64 0, .int .i64 0, .int .i64 0, .int .i64 0, .int .i64 0] 182)) w.heap.size (fun _ => True) (.slice none 0 0) ([] : List Int) := Kd.R_nil _ _ _ _ _
  clear hC hFf
  replace hT0 := Lib.hid hT0
  rcases hF with ⟨rfl, -⟩ | ⟨rfl, -⟩
  all_goals
    go_enter Tryz.func146, Tryz.ntmps146
    go_wp2_with (fail)
    generalize w.alloc (.cells #[.int .i64 0, .int .i64 0, .int .i64 0, .int .i64 0, .int .i64 0, .int .i64 0, .int .i64 0, .int .i64 0, .int .i64 0, .int .i64 0, .int .i64 0, .int .i64 0, .int .i64 0, .int .i64 0, .int .i64 0, .int .i64 0, .int .i64 0, .int .i64 0, .int .i64 0, .int .i64 0, .int .i64 0, .int .i64 0, .int .i64 0, .int .i64 0, .int .i64 0, .int .i64 0, .int .i64 0, .int .i64 0, .int .i64 0, .int .i64 0, .int .i64 0, .int .i64 0, .int .i64 0] 182) = w1 at hX0 hB0 hR0 ⊢
    go_loopg [7, 21] xs.length (fun kq v7 v21 W => ∃ (i : Nat) (out : List Int) (c : Ch), v21 = .int .i64 (i : Int) ∧ i + kq = xs.length ∧ out.length = i ∧ (turnT f c (xs.drop i)).map (out ++ ·) = T0 ∧ ChOk c ∧ L.BC W w.heap.size 182 (chC c) ∧ Kd.R (Kd.int .i64) 3 W w.heap.size (fun _ => True) v7 out ∧ Below w.heap.size w W)
    case atStart => exact ⟨0, [], ch0, by simp, by omega, rfl, by rw [List.drop_zero, hT0.out]; cases T0 <;> rfl, ch0_ok, hX0, hR0, hB0⟩
    case round =>
      clear hX0 hR0 hB0 hT0
      obtain ⟨i, out, c, rfl, hi, hol, hT, hok, hX, hR, hB⟩ := hrel
      obtain ⟨Ao, co, ev⟩ := Kd.R_slice hR
      subst ev
      have hCW := Kd.C_below hC0.out hB
      by_cases c1 : i < xs.length
      · have c1d : decide ((i : Int) < (xs.length : Int)) = true := decide_eq_true (by omega)
        obtain ⟨ad, ead, hx⟩ := Kd.at_int hCW (i : Int) (by omega) (by omega)
        cases ead
        rw [Int.toNat_natCast] at hx
        have p3 := eq_true (show (0 : Int) ≤ (i : Int) by omega)
        have q3 := eq_true (show (i : Int) < (xs.length : Int) by omega)
        rw [List.drop_eq_getElem_cons c1, ← rd_get c1] at hT
        generalize rd xs (i : Int) = x at *
        have hg := fun W => chn_guess c hok W
        obtain ⟨G, hG⟩ : ∃ G, chG c = G := ⟨_, rfl⟩
        rw [turnT, hG] at hT
        rw [hG] at hg
        have hf := fun W => HF.out x G W
        obtain ⟨y, hy⟩ : ∃ y, (f x G).1 = y := ⟨_, rfl⟩
        obtain ⟨sm, hsm⟩ : ∃ sm, (f x G).2 = sm := ⟨_, rfl⟩
        rw [hy, hsm] at hf hT
        have hn := fun W => fold_num x W
        have HIC := Lib.hid (chC_info hok)
        replace hg := Lib.hid hg
        replace hf := Lib.hid hf
        replace hn := Lib.hid hn
        replace hG := Lib.hid hG
        replace hy := Lib.hid hy
        replace hsm := Lib.hid hsm
        replace hol := Lib.hid hol
        go_wp2_with ((with_reducible refine wpList_load_mid rfl 182 (.tmp 6) rfl w.heap.size 0 ?hx (chC c) _ hX.range Tryz.underlying182 rfl HIC.out ?_); (case hx => show _ = Value.pointer _; rfl))
        refine (hg.out _).mono ?_
        rintro e w2 ⟨rfl, hb2⟩
        replace hX := L.BC.below hX hb2
        replace hR := Kd.R_below hR hb2
        replace hB := below_next hB hb2
        clear hb2 hg hCW hx
        go_wp2_with (fail)
        refine (hf.out _).mono ?_
        rintro e w3 ⟨rfl, m3, rfl⟩
        replace hX := L.BC.drewN hX m3
        replace hR := Kd.R_drewN hR m3
        replace hB := L.below_drewN hB m3
        clear hf
        generalize w2.drewN m3 = w4 at hX hR hB ⊢
        go_wp2_with ((with_reducible refine wpList_load_mid rfl 182 (.tmp 6) rfl w.heap.size 0 ?hx (chC c) _ hX.range Tryz.underlying182 rfl HIC.out ?_); (case hx => show _ = Value.pointer _; rfl))
        cases hso : smpOk sm with
        | false =>
          rw [hso, Bool.false_and, if_neg (by decide)] at hT
          have hT1 : none = T0 := hT
          have hT2 := Lib.hid hT1
          have hle := fun W => chn_learn_no c hok sm hso W
          replace hle := Lib.hid hle
          clear hT hT1
          replace hso := Lib.hid hso
          obtain ⟨Z, hZd⟩ : ∃ Z : List Value, zeroC = Z := ⟨_, rfl⟩
          rw [hZd] at hle
          refine (hle.out _).mono ?_
          rintro e w5 ⟨rfl, hb5⟩
          replace hB := below_next hB hb5
          clear hb5 hle
          have hN0 : L.BC (w5.alloc (.cells #[.int .i64 0, .int .i64 0, .int .i64 0, .int .i64 0, .int .i64 0, .int .i64 0, .int .i64 0, .int .i64 0, .int .i64 0, .int .i64 0, .int .i64 0, .int .i64 0, .int .i64 0, .int .i64 0, .int .i64 0, .int .i64 0, .int .i64 0, .int .i64 0, .int .i64 0, .int .i64 0, .int .i64 0, .int .i64 0, .int .i64 0, .int .i64 0, .int .i64 0, .int .i64 0, .int .i64 0, .int .i64 0, .int .i64 0, .int .i64 0, .int .i64 0, .int .i64 0, .int .i64 0] 182)) w5.heap.size 182 Z := by rw [← hZd]; exact L.BC.new w5 zeroC 182
          have hBa := L.below_alloc hB (.cells #[.int .i64 0, .int .i64 0, .int .i64 0, .int .i64 0, .int .i64 0, .int .i64 0, .int .i64 0, .int .i64 0, .int .i64 0, .int .i64 0, .int .i64 0, .int .i64 0, .int .i64 0, .int .i64 0, .int .i64 0, .int .i64 0, .int .i64 0, .int .i64 0, .int .i64 0, .int .i64 0, .int .i64 0, .int .i64 0, .int .i64 0, .int .i64 0, .int .i64 0, .int .i64 0, .int .i64 0, .int .i64 0, .int .i64 0, .int .i64 0, .int .i64 0, .int .i64 0, .int .i64 0] 182)
          have hlen : Z.length = 33 := by rw [← hZd]; rfl
          have hone : ∀ v ∈ Z, v.oneCell' = true := by rw [← hZd]; exact zeroC_one
          have hth : (w5.alloc (.cells #[.int .i64 0, .int .i64 0, .int .i64 0, .int .i64 0, .int .i64 0, .int .i64 0, .int .i64 0, .int .i64 0, .int .i64 0, .int .i64 0, .int .i64 0, .int .i64 0, .int .i64 0, .int .i64 0, .int .i64 0, .int .i64 0, .int .i64 0, .int .i64 0, .int .i64 0, .int .i64 0, .int .i64 0, .int .i64 0, .int .i64 0, .int .i64 0, .int .i64 0, .int .i64 0, .int .i64 0, .int .i64 0, .int .i64 0, .int .i64 0, .int .i64 0, .int .i64 0, .int .i64 0] 182)).there w5.heap.size 0 Z.toArray.size := hN0.there (n := Z.toArray.size) (by rw [List.size_toArray]; exact Nat.le_refl _)
          have HTH := Lib.hid hth
          have hi3 : (Tryz.prog.info? 182).map (·.size) = some Z.toArray.size := by rw [List.size_toArray, hlen]; exact info33
          have HI3 := Lib.hid hi3
          have hgw : w.heap.size ≤ w5.heap.size := hB.size
          have hBb := L.bc_below_setCells hgw Z 0 _ hBa
          clear hZd hth hi3 hlen hX hR hB hBa hN0
          go_wp2_with ((with_reducible refine wpList_store_mid rfl 182 (.tmp 14) (.tmp 41) rfl w5.heap.size 0 Z.toArray ?hx ?hy HTH.out HI3.out (all_oneCell_toArray hone) ?_); (case hx => rfl); (case hy => rfl))
          go_ret2
          rw [← hT2.out]
          exact ⟨rfl, hBb⟩
        | true =>
          rw [hso, Bool.true_and] at hT
          have hle := fun W => chn_learn c hok sm hso W
          have hok2 := chL_ok hok hso
          obtain ⟨c2, hc2⟩ : ∃ c2, chL c sm = c2 := ⟨_, rfl⟩
          rw [hc2] at hT hle hok2
          replace hT := Lib.hid hT
          replace hle := Lib.hid hle
          replace hc2 := Lib.hid hc2
          replace hso := Lib.hid hso
          have HIC2 := Lib.hid (chC_info hok2)
          refine (hle.out _).mono ?_
          rintro e w5 ⟨rfl, hb5⟩
          replace hX := L.BC.below hX hb5
          replace hR := Kd.R_below hR hb5
          replace hB := below_next hB hb5
          clear hb5 hle
          have hN0 : L.BC (w5.alloc (.cells #[.int .i64 0, .int .i64 0, .int .i64 0, .int .i64 0, .int .i64 0, .int .i64 0, .int .i64 0, .int .i64 0, .int .i64 0, .int .i64 0, .int .i64 0, .int .i64 0, .int .i64 0, .int .i64 0, .int .i64 0, .int .i64 0, .int .i64 0, .int .i64 0, .int .i64 0, .int .i64 0, .int .i64 0, .int .i64 0, .int .i64 0, .int .i64 0, .int .i64 0, .int .i64 0, .int .i64 0, .int .i64 0, .int .i64 0, .int .i64 0, .int .i64 0, .int .i64 0, .int .i64 0] 182)) w5.heap.size 182 zeroC := L.BC.new w5 zeroC 182
          have hXa := L.BC.alloc hX (.cells #[.int .i64 0, .int .i64 0, .int .i64 0, .int .i64 0, .int .i64 0, .int .i64 0, .int .i64 0, .int .i64 0, .int .i64 0, .int .i64 0, .int .i64 0, .int .i64 0, .int .i64 0, .int .i64 0, .int .i64 0, .int .i64 0, .int .i64 0, .int .i64 0, .int .i64 0, .int .i64 0, .int .i64 0, .int .i64 0, .int .i64 0, .int .i64 0, .int .i64 0, .int .i64 0, .int .i64 0, .int .i64 0, .int .i64 0, .int .i64 0, .int .i64 0, .int .i64 0, .int .i64 0] 182)
          have hRa := Kd.R_alloc hR (.cells #[.int .i64 0, .int .i64 0, .int .i64 0, .int .i64 0, .int .i64 0, .int .i64 0, .int .i64 0, .int .i64 0, .int .i64 0, .int .i64 0, .int .i64 0, .int .i64 0, .int .i64 0, .int .i64 0, .int .i64 0, .int .i64 0, .int .i64 0, .int .i64 0, .int .i64 0, .int .i64 0, .int .i64 0, .int .i64 0, .int .i64 0, .int .i64 0, .int .i64 0, .int .i64 0, .int .i64 0, .int .i64 0, .int .i64 0, .int .i64 0, .int .i64 0, .int .i64 0, .int .i64 0] 182)
          have hBa := L.below_alloc hB (.cells #[.int .i64 0, .int .i64 0, .int .i64 0, .int .i64 0, .int .i64 0, .int .i64 0, .int .i64 0, .int .i64 0, .int .i64 0, .int .i64 0, .int .i64 0, .int .i64 0, .int .i64 0, .int .i64 0, .int .i64 0, .int .i64 0, .int .i64 0, .int .i64 0, .int .i64 0, .int .i64 0, .int .i64 0, .int .i64 0, .int .i64 0, .int .i64 0, .int .i64 0, .int .i64 0, .int .i64 0, .int .i64 0, .int .i64 0, .int .i64 0, .int .i64 0, .int .i64 0, .int .i64 0] 182)
          have hgn : w5.heap.size ≠ w.heap.size := Nat.ne_of_gt hX.lt
          have hgw : w.heap.size ≤ w5.heap.size := hB.size
          have hsz : (chC c2).toArray.size = 33 := by unfold chC; rw [List.size_toArray, ints_length, chN_len hok2]
          have hth : (w5.alloc (.cells #[.int .i64 0, .int .i64 0, .int .i64 0, .int .i64 0, .int .i64 0, .int .i64 0, .int .i64 0, .int .i64 0, .int .i64 0, .int .i64 0, .int .i64 0, .int .i64 0, .int .i64 0, .int .i64 0, .int .i64 0, .int .i64 0, .int .i64 0, .int .i64 0, .int .i64 0, .int .i64 0, .int .i64 0, .int .i64 0, .int .i64 0, .int .i64 0, .int .i64 0, .int .i64 0, .int .i64 0, .int .i64 0, .int .i64 0, .int .i64 0, .int .i64 0, .int .i64 0, .int .i64 0] 182)).there w5.heap.size 0 (chC c2).toArray.size := by rw [hsz]; exact hN0.there (n := 33) (by decide)
          have HTH := Lib.hid hth
          have hi3 : (Tryz.prog.info? 182).map (·.size) = some (chC c2).toArray.size := by rw [hsz]; exact info33
          have HI3 := Lib.hid hi3
          have hNb := L.BC.over (R := chC c2) hN0 (by unfold chC; rw [ints_length, chN_len hok2]; rfl)
          have hXb := bc_other hXa hgn (chC c2) 0
          have hRb := R_setCells (ne_ty (by decide)) (chC c2) 0 _ _ hN0 hRa
          have hBb := L.bc_below_setCells hgw (chC c2) 0 _ hBa
          clear hth hi3 hsz hX hR hB hXa hRa hBa hN0
          go_wp2_with ((with_reducible refine wpList_store_mid rfl 182 (.tmp 14) (.tmp 41) rfl w5.heap.size 0 (chC c2).toArray ?hx ?hy HTH.out HI3.out (all_oneCell_toArray (chC_one _)) ?_); (case hx => rfl); (case hy => rfl))
          obtain ⟨W6, hW6⟩ : ∃ W, World.setCells (w5.alloc (.cells #[.int .i64 0, .int .i64 0, .int .i64 0, .int .i64 0, .int .i64 0, .int .i64 0, .int .i64 0, .int .i64 0, .int .i64 0, .int .i64 0, .int .i64 0, .int .i64 0, .int .i64 0, .int .i64 0, .int .i64 0, .int .i64 0, .int .i64 0, .int .i64 0, .int .i64 0, .int .i64 0, .int .i64 0, .int .i64 0, .int .i64 0, .int .i64 0, .int .i64 0, .int .i64 0, .int .i64 0, .int .i64 0, .int .i64 0, .int .i64 0, .int .i64 0, .int .i64 0, .int .i64 0] 182)) w5.heap.size 0 (chC c2) = W := ⟨_, rfl⟩
          rw [hW6] at hNb hXb hRb hBb ⊢
          obtain ⟨g5, hg5⟩ : ∃ g, w5.heap.size = g := ⟨_, rfl⟩
          rw [hg5] at hNb hgn hgw ⊢
          clear hW6 hg5 HTH HI3
          refine (hn.out _).mono ?_
          rintro e w7 ⟨rfl, m7, rfl⟩
          replace hNb := L.BC.drewN hNb m7
          replace hXb := L.BC.drewN hXb m7
          replace hRb := Kd.R_drewN hRb m7
          replace hBb := L.below_drewN hBb m7
          generalize W6.drewN m7 = w8 at hNb hXb hRb hBb ⊢
          cases hnx : numOk x with
          | false =>
            have hT1 := hT.out
            rw [hnx, if_neg (by decide)] at hT1
            have hT2 : none = T0 := hT1
            clear hT hT1
            go_wp2_with (fail)
            go_ret2
            rw [← hT2]
            exact ⟨rfl, hBb⟩
          | true =>
            have hT1 := hT.out
            rw [hnx, if_pos rfl] at hT1
            have hT2 := Lib.hid hT1
            clear hT hT1 hn hnx
            go_wp2_with (fail)
            replace hNb := L.BC.drew hNb
            replace hXb := L.BC.drew hXb
            replace hRb := Kd.R_drew hRb
            replace hBb := L.below_drew hBb
            refine start_ (n := 7) (S := fun w' => w'.rangeAt g5 0 (chC c2)) (ds := [5]) #[false, false, false, false, false, false, false] (by kernel_rfl) rfl rfl hNb.range (fun hHeld => ?_)
            generalize w8.drew = w9 at hNb hXb hRb hBb hHeld ⊢
            refine pure_ (i := 1) (N := (some 51)) (v := ?_) (a' := ?_) #[false, true, false, false, false, false, false] rfl rfl (by kernel_rfl) (fun _ _ _ h => h) (Or.inl ⟨by rfl, ?_⟩) ?_ ?_
            rotate_left
            · intro w'
              go_simp
              with_reducible rfl
            rotate_left
            · simp only [Act.put, List.setIfInBounds_toArray, List.set_cons_zero, List.set_cons_succ, i64_w, i32_w]
              rfl
            refine pure_ (i := 2) (N := (some 52)) (v := ?_) (a' := ?_) #[false, true, true, false, false, false, false] rfl rfl (by kernel_rfl) (fun _ _ _ h => h) (Or.inl ⟨by rfl, ?_⟩) ?_ ?_
            rotate_left
            · intro w'
              go_simp
              with_reducible rfl
            rotate_left
            · simp only [Act.put, List.setIfInBounds_toArray, List.set_cons_zero, List.set_cons_succ, i64_w, i32_w]
              rfl
            refine take_ (i := 0) (N := (some 50)) (v := .agg (chC c2).toArray) (a' := ?_) #[true, true, true, false, false, false, false] rfl rfl (by kernel_rfl) (fun _ _ _ h => h) (Or.inl ⟨by rfl, fun w' hS => L.loadsR 182 (.tmp 14) g5 (chC c2) _ (by rfl) (by rfl) Tryz.underlying182 rfl (HIC2.out) w' (id hS)⟩) hHeld ?_ ?_
            rotate_left
            · simp only [Act.put, List.setIfInBounds_toArray, List.set_cons_zero, List.set_cons_succ, i64_w, i32_w]
              rfl
            refine one_ (i := 3) (N := (some 53)) #[true, true, true, true, false, false, false] rfl rfl (by kernel_rfl) (by decide) (fun K hK => ?_)
            refine value_ (w1 := ?_) (v := ?_) (by rfl) rfl ?_ ?_
            rotate_left 2
            · go_simp
              constructor
              · rfl
              · rfl
            refine hK.out _ _ (L.BC.alloc hNb _).range (fun hHeld => ?_)
            clear hK K
            refine norm_ (a' := ?_) ?_ ?_
            rotate_left
            · show Act.put _ (some 53) _ = _
              simp only [Act.put, List.setIfInBounds_toArray, List.set_cons_zero, List.set_cons_succ, i64_w, i32_w]
              rfl
            refine one_ (i := 4) (N := (some 54)) #[true, true, true, true, true, false, false] rfl rfl (by kernel_rfl) (by decide) (fun K hK => ?_)
            refine Kd.R_append_step (Kd.int .i64) (w0 := w) w.heap.size (by rfl) (.tmp 51) (.tmp 53) 22 3 (.int .i64 0) 8 rfl Tryz.underlying22 infoI rfl (by decide) (by omega) (.slice Ao out.length co) out y [.int .i64 y] (fun _ => True) (fun _ => False) rfl rfl ?aP (fun _ hk => hk.elim) ?aF ?aO ?aB ?aS ?aL ?_
            (case aP => exact rfl)
            (case aB => exact hBb)
            (case aF => exact (fun _ _ => trivial))
            (case aO => exact hRb)
            (case aS => exact hBb.size)
            (case aL => rw [hol.out]; omega)
            intro v54 w10 hR10 hB10 hg hat
            have hN10 := bc_grown hNb hg (Kd.R_ne hRb hNb.blk (by decide))
            have hX10 := bc_grown hXb hg (Kd.R_ne hRb hXb.blk (by decide))
            clear hRb hNb hXb hBb hg hat hHeld
            obtain ⟨A2, co2, e2⟩ := Kd.R_slice hR10
            subst e2
            refine hK.out _ _ hN10.range (fun hHeld => ?_)
            clear hK K
            refine norm_ (a' := ?_) ?_ ?_
            rotate_left
            · show Act.put _ (some 54) _ = _
              simp only [Act.put, List.setIfInBounds_toArray, List.set_cons_zero, List.set_cons_succ, i64_w, i32_w]
              rfl
            refine last_ (i := 5) (N := none) #[true, true, true, true, true, true, false] rfl rfl (by kernel_rfl) (by decide) (fun K hK => ?_)
            refine L.skip_row 182 (.tmp 6) (.tmp 50) w.heap.size (chC c2) (by rfl) rfl (by rfl) (by rfl) (by rfl) (hX10.there (by unfold chC; rw [ints_length, ints_length, chN_len hok2, chN_len hok]; exact Nat.le_refl _)) HIC2.out (chC_one c2) ?_
            have hX11 : L.BC (w10.setCells w.heap.size 0 (chC c2)) w.heap.size 182 (chC c2) := L.BC.over (R := chC c2) hX10 (by unfold chC; rw [ints_length, ints_length, chN_len hok2, chN_len hok])
            have hR11 := R_setCells (ne_ty (by decide)) (chC c2) 0 _ _ hX10 hR10
            have hB11 := L.bc_below_setCells (Nat.le_refl _) (chC c2) 0 _ hB10
            clear hX10 hR10 hB10 hN10
            generalize World.setCells w10 w.heap.size 0 (chC c2) = w11 at hX11 hR11 hB11 ⊢
            refine hK.out _ _ ?_
            clear hK K
            refine pure_ (i := 6) (N := (some 7)) (v := ?_) (a' := ?_) #[true, true, true, true, true, true, true] rfl rfl (by kernel_rfl) (fun _ _ _ h => h) (Or.inl ⟨by rfl, ?_⟩) ?_ ?_
            rotate_left
            · intro w'
              go_simp
              with_reducible rfl
            rotate_left
            · simp only [Act.put, List.setIfInBounds_toArray, List.set_cons_zero, List.set_cons_succ, i64_w, i32_w]
              rfl
            refine done_ (by kernel_rfl) ?_
            go_wp2_with (fail)
            obtain ⟨j, rfl⟩ : ∃ j, gk = j + 1 := ⟨gk - 1, by omega⟩
            go_roundg j
            case measure => omega
            case rel =>
              refine ⟨i + 1, out ++ [y], c2, by simp, by omega, by rw [List.length_append, hol.out]; rfl, ?_, hok2, hX11, (by rw [List.length_append] at hR11; exact hR11), hB11⟩
              rw [← hT2.out, Option.map_map]
              cases turnT f c2 (List.drop (i + 1) xs) with
              | none => rfl
              | some u => show some (out ++ [y] ++ u) = some (out ++ y :: u); rw [List.append_assoc]; rfl
      · have c1d : decide ((i : Int) < (xs.length : Int)) = false := decide_eq_false (by omega)
        rw [List.drop_of_length_le (by omega), turnT] at hT
        have hT1 : some (out ++ []) = T0 := hT
        rw [List.append_nil] at hT1
        clear hT
        have hT2 := Lib.hid hT1
        clear hT1
        go_wp2_with (fail)
        go_ret2
        rw [← hT2.out]
        exact ⟨_, rfl, hR, hB⟩
theorem put_turn : ∀ (xs : List Int) (c : Ch), ChOk c → xs.all smpOk = true → turnT put1 c xs = some (lineP c xs)
  | [], _, _, _ => rfl
  | x :: t, c, h, hx => by
    rw [List.all_cons, Bool.and_eq_true] at hx
    have h1 := ins_iff.1 hx.1
    have h2 := chG_in h
    rw [turnT]
    show (if smpOk x && numOk x then (turnT put1 (chL c x) t).map (wrap64 (x - chG c) :: ·) else none) = some ((x - chG c) :: lineP (chL c x) t)
    have hn : numOk x = true := decide_eq_true (by omega)
    rw [hx.1, hn, if_pos (by decide), put_turn t _ (chL_ok h hx.1) hx.2, IntWalk.wrap64_in _ ⟨by omega, by omega⟩]
    rfl
theorem get_turn : ∀ (xs : List Int) (c : Ch), ChOk c → turnT get1 c xs = lineG c xs
  | [], _, _ => rfl
  | x :: t, c, h => by
    have h2 := chG_in h
    rw [turnT, lineG]
    show (if smpOk (wrap64 (x + chG c)) && numOk x then (turnT get1 (chL c (wrap64 (x + chG c))) t).map (wrap64 (x + chG c) :: ·) else none) = _
    cases hn : numOk x with
    | false => rw [Bool.and_false, Bool.and_false]; rfl
    | true =>
      have hn1 : -16777216 ≤ x ∧ x ≤ 16777216 := of_decide_eq_true hn
      rw [IntWalk.wrap64_in _ ⟨by omega, by omega⟩]
      cases hs : smpOk (x + chG c) with
      | false => rfl
      | true => rw [get_turn t _ (chL_ok h hs)]
theorem line_put (xs : List Int) (A : Option Addr) (cap : Nat) (w : World) (hC : Kd.C (Kd.int .i64) w A xs.length xs) (hc : xs.length ≤ cap) (hl : xs.length ≤ 256) (hx : xs.all smpOk = true) :
    Calls Tryz.prog 105 #[.slice A xs.length cap] w fun e w' => ∃ v, e = .returned (.tuple #[v, .int .i64 0]) ∧ Kd.R (Kd.int .i64) 3 w' w.heap.size (fun _ => True) v (lineP ch0 xs) ∧ Below w.heap.size w w' := by
  have h := line_turn 147 put1 (.inl ⟨rfl, rfl⟩) xs A cap w hC hc hl
  rw [put_turn xs ch0 ch0_ok hx] at h
  have H := Lib.hid h
  clear h
  go_enter Tryz.func105, Tryz.ntmps105
  go_wp2_with (fail)
  refine H.out.mono ?_
  rintro e w1 ⟨v, rfl, hR, hB⟩
  go_wp2_with (fail)
  go_ret2
  exact ⟨_, rfl, hR, hB⟩
theorem line_get (xs : List Int) (A : Option Addr) (cap : Nat) (w : World) (hC : Kd.C (Kd.int .i64) w A xs.length xs) (hc : xs.length ≤ cap) (hl : xs.length ≤ 256) :
    Calls Tryz.prog 152 #[.slice A xs.length cap] w fun e w' => lineR w w' e (lineG ch0 xs) := by
  have h := line_turn 181 get1 (.inr ⟨rfl, rfl⟩) xs A cap w hC hc hl
  rw [get_turn xs ch0 ch0_ok] at h
  have H := Lib.hid h
  clear h
  cases hg : lineG ch0 xs with
  | none =>
    rw [hg] at H
    clear hg
    go_enter Tryz.func152, Tryz.ntmps152
    go_wp2_with (fail)
    refine H.out.mono ?_
    rintro e w1 ⟨rfl, hB⟩
    go_wp2_with (fail)
    go_ret2
    exact ⟨rfl, hB⟩
  | some ys =>
    rw [hg] at H
    clear hg
    go_enter Tryz.func152, Tryz.ntmps152
    go_wp2_with (fail)
    refine H.out.mono ?_
    rintro e w1 ⟨v, rfl, hR, hB⟩
    go_wp2_with (fail)
    go_ret2
    exact ⟨_, rfl, hR, hB⟩
end Go.Proofs.YtiokfaiioealdaaGreatDoor
namespace Go.Proofs.YtiokfaiioealdaaGreatDoor
open Go.RowKit Go.Proofs.YtiokfaiioealdaaGreatDoorW.PrintWords Go.Proofs.YtiokfaiioealdaaGreatDoorW.PrintLast Go.Proofs.YtiokfaiioealdaaGreatDoorW.PrintMore Go.Proofs.YtiokfaiioealdaaGreatDoor.L
set_option linter.unusedVariables false
set_option linter.unusedSimpArgs false
def oddB (x : Int) : Bool := !smpOk x
def nonB (x : Int) : Bool := x != 0
theorem side_odd (x : Int) (w : World) : Calls Tryz.prog 196 #[.int .i64 x] w fun e w' => e = .returned (.bool (oddB x)) ∧ ∃ k, w' = w.drewN k := by
  have h := fun W => chn_sample x W
  replace h := Lib.hid h
  go_enter Tryz.func196, Tryz.ntmps196
  go_wp2_with (fail)
  refine (h.out _).mono ?_
  rintro e w1 ⟨rfl, m, rfl⟩
  go_wp2_with (fail)
  go_ret
  exact ⟨rfl, m, rfl⟩
theorem may_odd (x : Int) (w : World) : Calls Tryz.prog 173 #[.int .i64 x] w fun e w' => e = .returned (.bool (oddB x)) ∧ ∃ k, w' = w.drewN k := by
  have h := fun W => chn_sample x W
  replace h := Lib.hid h
  go_enter Tryz.func173, Tryz.ntmps173
  go_wp2_with (fail)
  refine (h.out _).mono ?_
  rintro e w1 ⟨rfl, m, rfl⟩
  go_wp2_with (fail)
  go_ret
  exact ⟨rfl, m, rfl⟩
theorem wasted_non (x : Int) (w : World) : Calls Tryz.prog 141 #[.int .i64 x] w fun e w' => e = .returned (.bool (nonB x)) ∧ ∃ k, w' = w.drewN k := by
  go_enter Tryz.func141, Tryz.ntmps141
  go_wp2_with (fail)
  go_ret
  exact ⟨rfl, 0, rfl⟩
set_option maxHeartbeats 8000000 in
set_option maxRecDepth 100000 in
theorem index_func (F : Nat) (p : Int → Bool) (hF : (F = 196 ∧ p = oddB) ∨ (F = 173 ∧ p = oddB) ∨ (F = 141 ∧ p = nonB))
    (xs : List Int) (A : Option Addr) (cap : Nat) (w : World) (hC : Kd.C (Kd.int .i64) w A xs.length xs) (hc : xs.length ≤ cap) (hl : xs.length ≤ 140737488351232) :
    Calls Tryz.prog 171 #[.slice A xs.length cap, .func (Fn.func F) #[] #[]] w fun e w' => (∃ i : Int, e = .returned (.int .i64 i) ∧ decide (0 ≤ i) = xs.any p) ∧ ∃ k, w' = w.drewN k := by
  have hC0 := Lib.hid hC
  have hFp : ∀ x W, Calls Tryz.prog F #[.int .i64 x] W fun e w' => e = .returned (.bool (p x)) ∧ ∃ k, w' = W.drewN k := by
    rcases hF with ⟨rfl, rfl⟩ | ⟨rfl, rfl⟩ | ⟨rfl, rfl⟩
    · exact side_odd
    · exact may_odd
    · exact wasted_non
  have HF := Lib.hid hFp
  clear hC hFp
  rcases hF with ⟨rfl, -⟩ | ⟨rfl, -⟩ | ⟨rfl, -⟩
  all_goals
    go_enter Tryz.func171, Tryz.ntmps171
    go_wp2_with (fail)
    go_loopg [8] xs.length (fun kq v8 W => ∃ (i m : Nat), v8 = .int .i64 (i : Int) ∧ i + kq = xs.length ∧ (xs.take i).any p = false ∧ W = w.drewN m)
    case atStart => exact ⟨0, 0, by simp, by omega, rfl, rfl⟩
    case round =>
      obtain ⟨i, m, rfl, hi, hn, rfl⟩ := hrel
      have hCW := Kd.C_drewN hC0.out m
      by_cases c1 : i < xs.length
      · have c1d : decide ((i : Int) < (xs.length : Int)) = true := decide_eq_true (by omega)
        obtain ⟨ad, ead, hx⟩ := Kd.at_int hCW (i : Int) (by omega) (by omega)
        cases ead
        rw [Int.toNat_natCast] at hx
        have p3 := eq_true (show (0 : Int) ≤ (i : Int) by omega)
        have q3 := eq_true (show (i : Int) < (xs.length : Int) by omega)
        have ht : xs.take (i + 1) = xs.take i ++ [rd xs (i : Int)] := by rw [List.take_succ_eq_append_getElem c1, ← rd_get c1]
        have hm : xs.any p = false → p (rd xs (i : Int)) = false := fun h => by
          rw [rd_get c1]
          exact Bool.eq_false_iff.2 fun e => Bool.eq_false_iff.1 h (List.any_eq_true.2 ⟨_, List.getElem_mem c1, e⟩)
        generalize rd xs (i : Int) = x at hx ht hm
        have hf := fun W => HF.out x W
        replace hf := Lib.hid hf
        replace ht := Lib.hid ht
        replace hm := Lib.hid hm
        replace hn := Lib.hid hn
        go_wp2_with (fail)
        refine (hf.out _).mono ?_
        rintro e w3 ⟨rfl, m3, rfl⟩
        clear hf hx hCW
        cases hp : p x with
        | true =>
          go_wp2_with (fail)
          go_ret
          refine ⟨⟨i, rfl, ?_⟩, _, rfl⟩
          rw [decide_eq_true (show (0 : Int) ≤ (i : Int) by omega)]
          cases hq : xs.any p with
          | true => rfl
          | false => rw [hm.out hq] at hp; cases hp
        | false =>
          go_wp2_with (fail)
          obtain ⟨j, rfl⟩ : ∃ j, gk = j + 1 := ⟨gk - 1, by omega⟩
          go_roundg j
          case measure => omega
          case rel =>
            refine ⟨i + 1, m + m3, by simp, by omega, ?_, rfl⟩
            rw [ht.out, List.any_append, hn.out]
            simp [hp]
      · have c1d : decide ((i : Int) < (xs.length : Int)) = false := decide_eq_false (by omega)
        rw [List.take_of_length_le (by omega)] at hn
        replace hn := Lib.hid hn
        go_wp2_with (fail)
        go_ret
        exact ⟨⟨_, rfl, by rw [hn.out]; rfl⟩, m, rfl⟩
set_option maxHeartbeats 8000000 in
theorem contains_func (F : Nat) (p : Int → Bool) (hF : (F = 196 ∧ p = oddB) ∨ (F = 173 ∧ p = oddB) ∨ (F = 141 ∧ p = nonB))
    (xs : List Int) (A : Option Addr) (cap : Nat) (w : World) (hC : Kd.C (Kd.int .i64) w A xs.length xs) (hc : xs.length ≤ cap) (hl : xs.length ≤ 140737488351232) :
    Calls Tryz.prog 140 #[.slice A xs.length cap, .func (Fn.func F) #[] #[]] w fun e w' => e = .returned (.bool (xs.any p)) ∧ ∃ k, w' = w.drewN k := by
  have h := index_func F p hF xs A cap w hC hc hl
  have H := Lib.hid h
  obtain ⟨b, hb⟩ : ∃ b, xs.any p = b := ⟨_, rfl⟩
  rw [hb] at H ⊢
  clear h hC hF hb
  go_enter Tryz.func140, Tryz.ntmps140
  go_wp2_with (fail)
  refine H.out.mono ?_
  rintro e w1 ⟨⟨i, rfl, hi⟩, m, rfl⟩
  go_wp2_with (fail)
  go_ret
  refine ⟨?_, m, rfl⟩
  rw [← hi]
  rfl
end Go.Proofs.YtiokfaiioealdaaGreatDoor
namespace Go.Proofs.YtiokfaiioealdaaGreatDoor
open Go.RowKit Go.Proofs.YtiokfaiioealdaaGreatDoorW.PrintWords Go.Proofs.YtiokfaiioealdaaGreatDoorW.PrintLast Go.Proofs.YtiokfaiioealdaaGreatDoorW.PrintMore Go.Proofs.YtiokfaiioealdaaGreatDoor.L
set_option linter.unusedVariables false
set_option linter.unusedSimpArgs false
abbrev RW : Kd (List Int) := Kd.slice 3 (Kd.int .i64)
abbrev RT : Nat := 22
def row (xs : List (List Int)) (i : Nat) : List Int := xs.getD i []
theorem infoR : (Tryz.prog.info? 22).map (fun i => (i.zero, i.size, i.bytes)) = some (some (.slice none 0 0), 1, 24) := by kernel_rfl
theorem rows_at {w : World} {A : Option Addr} {n : Nat} {xs : List (List Int)} (h : Kd.C RW w A n xs) (i : Nat) (h1 : i < n) : ∃ ad A0 c0, A = some ad ∧ w.cell? (ad.add i) = some (.slice A0 (row xs i).length c0) ∧ (row xs i).length ≤ c0 ∧ Kd.C (Kd.int .i64) w A0 (row xs i).length (row xs i) := by
  obtain ⟨ad, c, e, hl, hK, hc⟩ := h.get_ [] (i : Int) (by omega) (by omega)
  rw [Int.toNat_natCast] at hK hc
  obtain ⟨A0, c0, rfl, l0, g0⟩ := hK
  exact ⟨ad, A0, c0, e, by have hq := hc 0 _ rfl; rwa [show RW.sz = 1 from rfl, Nat.mul_one, Nat.add_zero] at hq, l0, g0⟩
section
variable {w W : World} {base B g n cap : Nat} {xs : List (List Int)} {ys : List Int} {v u : Value}
theorem rows_old {w1 : World} (h : Kd.S RW RT W base (fun _ => True) v xs) (hb : Below W.heap.size W w1) : Kd.S RW RT w1 base (fun k => k < W.heap.size) v xs :=
  Kd.S_mono (Kd.S_old h hb) (fun _ hk => hk.2)
/-- One row put: it is of the memory made since. -/
theorem rows_put (h : Kd.S RW RT W base (fun k => k < B) (.slice (some ⟨g, 0, none⟩) n cap) xs) (i : Nat) (hi : i < n) (hy : Kd.R (Kd.int .i64) 3 W B (fun _ => True) v ys) (hbB : base ≤ B) (hgB : g < B) :
    Kd.S RW RT (W.setCell ⟨g, i, none⟩ v) base (fun _ => True) (.slice (some ⟨g, 0, none⟩) n cap) (xs.set i ys) ∧ W.grownBy (W.setCell ⟨g, i, none⟩ v) (some g) := by
  obtain ⟨oki, c, hcl, hM, hcc, hoki, hH⟩ := Kd.S_lend h [] (i : Int) (by omega) (by omega)
  have hH2 : Kd.H RW RT W base (fun k => True ∧ ¬ (B ≤ k)) (.slice (some ⟨g, 0, none⟩) n cap) xs (i : Int) oki c := Kd.H_mono hH (fun k hk => ⟨trivial, Nat.not_le.2 hk⟩)
  have h2 := Kd.S_seg (okg := fun k => B ≤ k) (okp := fun k => B ≤ k) (seg := [v]) (j := 0) (x' := ys) hH2 (by omega) (by omega) (Nat.le_refl 1) ?_ (fun k hk => .inr hk) (fun k hk => ⟨trivial, by omega⟩)
  · rw [Int.toNat_natCast] at h2
    have e : i * RW.sz + 0 = i := Nat.mul_one i
    rw [e] at h2
    exact h2
  · have e : c.take 0 ++ [v] ++ c.drop (0 + [v].length) = [v] := by
      match c, hcl with
      | [x], _ => rfl
    rw [e]
    exact ⟨v, rfl, Kd.R_lower (Kd.R_mono (Kd.R_bound hy) (fun k hk => hk.2.1)) hbB⟩
end
set_option maxHeartbeats 8000000 in
set_option maxRecDepth 100000 in
theorem clone_any (xs : List Int) (A : Option Addr) (cap : Nat) (w : World) (hC : Kd.C (Kd.int .i64) w A xs.length xs) (hl : xs.length ≤ 8192) :
    Calls Tryz.prog 144 #[.slice A xs.length cap] w fun e w' => ∃ v, e = .returned v ∧ Kd.R (Kd.int .i64) 3 w' w.heap.size (fun _ => True) v xs ∧ Below w.heap.size w w' := by
  have q22 : ∀ (w : World) (a : Option Addr) (n c n' c' : Nat), (binOp .eql 22 (.slice a n c) (.slice none n' c')).run Tryz.prog w = .ok (.bool a.isNone) w := fun w a n c n' c' => Lib.run_eql_slice_nil w _ _ a n c n' c' Tryz.underlying22
  cases A with
  | none =>
    have h0 : xs = [] := by
      cases xs with
      | nil => rfl
      | cons x t => obtain ⟨ad, ead, -⟩ := Kd.at_int hC 0 (by omega) (by simp); cases ead
    subst h0
    go_enter Tryz.func144, Tryz.ntmps144
    go_wp2_with (fail)
    go_ret
    exact ⟨_, rfl, Kd.R_nil _ _ _ _ _, Below.refl _ _⟩
  | some ad =>
    have hC0 := Lib.hid hC
    clear hC
    replace hl := Lib.hid hl
    go_enter Tryz.func144, Tryz.ntmps144
    go_wp2_with (first
      | ((with_reducible refine gate_dst (N := 5) rfl ?_); refine Kd.R_lit (Kd.int .i64) _ 3 ?hg (N := 5) ?hd (xs := ([] : List Int)) (inner := []) (ok := fun _ => True) (okp := fun _ => True) ?hr ?hp (fun _ hk => hk) trivial (Below.refl _ _) (Nat.le_refl _) (by simp) ?_; (case hd => rfl); (case hg => rfl); (case hr => first | (go_simp; done) | (go_simp; rfl)); (case hp => exact Reps.none _ _); intro v5 w6 hR6 hB6 hg_ hnew_; clear hg_ hnew_)
      | ((with_reducible refine gate_builtin (b := .append) (xs := #[.tmp 5, .tmp 6]) rfl ?_); at_builtin; refine Kd.R_append_rows (Kd.int .i64) (w0 := w) w.heap.size rfl (.tmp 5) (.tmp 6) 22 3 (.int .i64 0) 8 rfl Tryz.underlying22 infoI rfl (by decide) (by omega) v5 [] xs _ _ _ (fun _ => True) (fun _ => False) rfl rfl ?aO ?aR (fun _ _ h => h) (fun _ h => h.elim) ?aF ?aB ?aS ?aL ?_; (case aR => exact Kd.C_below hC0.out hB6); (case aB => exact hB6); (case aF => exact (fun _ _ => trivial)); (case aO => exact hR6); (case aS => exact hB6.size); (case aL => have h := hl.out; simp; omega); intro v7 w9 hR9 hB9 hg hat; clear hg hat))
    go_ret
    exact ⟨_, rfl, hR9, hB9⟩
theorem set_next {Y X : List Int} {j : Nat} {v : Int} (hx : Y.length = X.length) (hj : j < Y.length) (hv : Y.getD j 0 = v) : (Y.take j ++ X.drop j).set j v = Y.take (j + 1) ++ X.drop (j + 1) := by
  have h1 : (Y.take j).length = j := by rw [List.length_take]; omega
  rw [List.set_append_right _ _ (by omega), h1, Nat.sub_self, List.drop_eq_getElem_cons (show j < X.length by omega), List.set_cons_zero, List.take_succ_eq_append_getElem hj, List.append_assoc]
  rw [List.getD_eq_getElem?_getD, List.getElem?_eq_getElem hj] at hv
  rw [← hv]; rfl
theorem rd_next {Y X : List Int} {j : Nat} (hj : j ≤ Y.length) : rd (Y.take j ++ X.drop j) (j : Int) = X.getD j 0 := by
  have h1 : (Y.take j).length = j := by rw [List.length_take]; omega
  rw [rd, Int.toNat_natCast, List.getD_eq_getElem?_getD, List.getElem?_append_right (by omega), h1, Nat.sub_self, List.getElem?_drop, Nat.add_zero, ← List.getD_eq_getElem?_getD]
theorem all_getD {p : Int → Bool} {X : List Int} (h : X.all p = true) {j : Nat} (hj : j < X.length) : p (X.getD j 0) = true := by
  rw [List.getD_eq_getElem?_getD, List.getElem?_eq_getElem hj]
  exact List.all_eq_true.1 h _ (List.getElem_mem hj)
theorem rd_nat (X : List Int) (j : Nat) : rd X (j : Int) = X.getD j 0 := by rw [rd, Int.toNat_natCast]
end Go.Proofs.YtiokfaiioealdaaGreatDoor
namespace Go.Proofs.YtiokfaiioealdaaGreatDoor
open Go.RowKit Go.Proofs.YtiokfaiioealdaaGreatDoorW.PrintWords Go.Proofs.YtiokfaiioealdaaGreatDoorW.PrintLast Go.Proofs.YtiokfaiioealdaaGreatDoorW.PrintMore Go.Proofs.YtiokfaiioealdaaGreatDoor.L
set_option linter.unusedVariables false
set_option linter.unusedSimpArgs false
def mayR (n : Nat) (xs : List Int) : Bool := decide (xs.length = n) && xs.all smpOk
def mayT (chs : List (List Int)) : Bool := chs.all (mayR (row chs 0).length) && (decide (chs.length = 1) || decide (chs.length = 2))
theorem any_odd (xs : List Int) : xs.any oddB = !xs.all smpOk := by
  induction xs with
  | nil => rfl
  | cons x t ih => rw [List.any_cons, List.all_cons, ih, oddB, Bool.not_and]
theorem row_get {chs : List (List Int)} {i : Nat} (h : i < chs.length) : row chs i = chs[i] := by unfold row; rw [List.getD_eq_getElem?_getD, List.getElem?_eq_getElem h]; rfl
set_option maxHeartbeats 8000000 in
set_option maxRecDepth 100000 in
theorem side_may (chs : List (List Int)) (A : Option Addr) (cap : Nat) (w : World) (hC : Kd.C RW w A chs.length chs) (hc : chs.length ≤ cap) (hl : chs.length ≤ 8192) (hr : ∀ xs ∈ chs, xs.length ≤ 8192) :
    Calls Tryz.prog 175 #[.slice A chs.length cap] w fun e w' => e = .returned (.bool (mayT chs)) ∧ ∃ k, w' = w.drewN k := by
  have hC0 := Lib.hid hC
  obtain ⟨b, hb⟩ : ∃ b, mayT chs = b := ⟨_, rfl⟩
  rw [hb]
  clear hC
  replace hb := Lib.hid hb
  go_enter Tryz.func175, Tryz.ntmps175
  go_wp2_with (fail)
  go_loopg [7] chs.length (fun kq v7 W => ∃ (i m : Nat), v7 = .int .i64 (i : Int) ∧ i + kq = chs.length ∧ (chs.take i).all (mayR (row chs 0).length) = true ∧ W = w.drewN m)
  case atStart => exact ⟨0, 0, by simp, by omega, rfl, rfl⟩
  case round =>
    obtain ⟨i, m, rfl, hi, hn, rfl⟩ := hrel
    have hCW := Kd.C_drewN hC0.out m
    by_cases c1 : i < chs.length
    · have c1d : decide ((i : Int) < (chs.length : Int)) = true := decide_eq_true (by omega)
      obtain ⟨ad, A1, k1, ead, hx, hk1, hC1⟩ := rows_at hCW i c1
      obtain ⟨ad0, A0, k0, ead0, hx0, hk0, hC2⟩ := rows_at hCW 0 (by omega)
      cases ead
      cases ead0
      rw [show ad.add 0 = ad by cases ad; rfl] at hx0
      have p3 := eq_true (show (0 : Int) ≤ (i : Int) by omega)
      have q3 := eq_true (show (i : Int) < (chs.length : Int) by omega)
      have q4 := eq_true (show (0 : Int) < (chs.length : Int) by omega)
      have ht : chs.take (i + 1) = chs.take i ++ [row chs i] := by rw [List.take_succ_eq_append_getElem c1, row_get c1]
      have hmem : row chs i ∈ chs := by rw [row_get c1]; exact List.getElem_mem c1
      have hall : mayT chs = true → mayR (row chs 0).length (row chs i) = true := fun h => by
        unfold mayT at h
        exact List.all_eq_true.1 (Bool.and_eq_true _ _ ▸ h).1 _ hmem
      have hx1 := hr _ hmem
      generalize row chs i = xs at hx hk1 hC1 ht hall hx1
      obtain ⟨n0, hn0⟩ : ∃ n, (row chs 0).length = n := ⟨_, rfl⟩
      rw [hn0] at hx0 hall hn
      rw [hn0] at hk0 hC2
      replace ht := Lib.hid ht
      replace hall := Lib.hid hall
      replace hn := Lib.hid hn
      replace hn0 := Lib.hid hn0
      replace hC1 := Lib.hid hC1
      clear hC2 hCW hmem
      by_cases c2 : xs.length = n0
      · have c2d : ((xs.length : Int) = (n0 : Int)) = True := eq_true (by omega)
        have c2b : ((xs.length : Int) != (n0 : Int)) = false := by rw [c2]; exact bne_self_eq_false' _
        replace c2 := Lib.hid c2
        have hcf := fun W (h : Kd.C (Kd.int .i64) W A1 xs.length xs) => contains_func 196 oddB (.inl ⟨rfl, rfl⟩) xs A1 k1 W h hk1 (by omega)
        rw [any_odd] at hcf
        replace hcf := Lib.hid hcf
        go_wp2_with (fail)
        refine (hcf.out _ hC1.out).mono ?_
        rintro e w3 ⟨rfl, m3, rfl⟩
        clear hcf hx hx0
        cases ha : xs.all smpOk with
        | true =>
          go_wp2_with (fail)
          obtain ⟨j, rfl⟩ : ∃ j, gk = j + 1 := ⟨gk - 1, by omega⟩
          go_roundg j
          case measure => omega
          case rel =>
            refine ⟨i + 1, m + m3, by simp, by omega, ?_, rfl⟩
            rw [hn0.out, ht.out, List.all_append, hn.out]
            simp [mayR, ha, c2.out]
        | false =>
          go_wp2_with (fail)
          go_ret
          refine ⟨?_, _, rfl⟩
          cases hq : mayT chs with
          | true => have := hall.out hq; unfold mayR at this; rw [ha, Bool.and_false] at this; cases this
          | false => rw [← hb.out, hq]; rfl
      · have c2d : ((xs.length : Int) = (n0 : Int)) = False := eq_false (by omega)
        replace c2 := Lib.hid c2
        go_wp2_with (fail)
        go_ret
        refine ⟨?_, _, rfl⟩
        cases hq : mayT chs with
        | true => have := hall.out hq; unfold mayR at this; rw [Bool.and_eq_true, decide_eq_true_eq] at this; exact absurd this.1 c2.out
        | false => rw [← hb.out, hq]; rfl
    · have c1d : decide ((i : Int) < (chs.length : Int)) = false := decide_eq_false (by omega)
      rw [List.take_of_length_le (by omega)] at hn
      have hb2 : (decide (chs.length = 1) || decide (chs.length = 2)) = b := by rw [← hb.out, mayT, hn, Bool.true_and]
      replace hb2 := Lib.hid hb2
      clear hn hi
      by_cases d1 : chs.length = 1
      · have e1 : ((chs.length : Int) == 1) = true := by rw [d1]; rfl
        replace d1 := Lib.hid d1
        go_wp2_with (fail)
        go_ret
        exact ⟨by rw [← hb2.out, d1.out]; rfl, _, rfl⟩
      · have e1 : ((chs.length : Int) == 1) = false := beq_eq_false_iff_ne.2 (by omega)
        replace d1 := Lib.hid d1
        by_cases d2 : chs.length = 2
        · have e2 : ((chs.length : Int) == 2) = true := by rw [d2]; rfl
          replace d2 := Lib.hid d2
          go_wp2_with (fail)
          go_ret
          exact ⟨by rw [← hb2.out, d2.out]; rfl, _, rfl⟩
        · have e2 : ((chs.length : Int) == 2) = false := beq_eq_false_iff_ne.2 (by omega)
          replace d2 := Lib.hid d2
          go_wp2_with (fail)
          go_ret
          exact ⟨by rw [← hb2.out, decide_eq_false d1.out, decide_eq_false d2.out]; rfl, _, rfl⟩
def rowT (way : Int) (k : Nat) (c0 xs : List Int) : List Int := List.zipWith (fun x y => x + (k : Int) * way * y) xs c0
def outT (way : Int) (chs : List (List Int)) : List (List Int) := (List.range chs.length).map fun k => rowT way k (row chs 0) (row chs k)
def turnS (way : Int) (chs : List (List Int)) : Option (List (List Int)) := if mayT chs && mayT (outT way chs) then some (outT way chs) else none
/-- What a function answers that gives rows of rows. -/
def rowsR (n : Int) (w w' : World) (e : Ending) : Option (List (List Int)) → Prop
  | some ys => ∃ v, e = .returned (.tuple #[v, .int .i64 0]) ∧ Kd.S RW RT w' w.heap.size (fun _ => True) v ys ∧ Below w.heap.size w w'
  | none => e = .returned (.tuple #[.slice none 0 0, .int .i64 n]) ∧ Below w.heap.size w w'
theorem below_trans {w w1 w2 : World} (h : Below w.heap.size w w1) (k : Below w1.heap.size w1 w2) : Below w.heap.size w w2 := below_next h k
theorem mayT_rows {chs : List (List Int)} (h : mayT chs = true) : (chs.length = 1 ∨ chs.length = 2) ∧ ∀ k, k < chs.length → (row chs k).length = (row chs 0).length ∧ (row chs k).all smpOk = true := by
  unfold mayT at h
  rw [Bool.and_eq_true] at h
  refine ⟨by simpa using h.2, fun k hk => ?_⟩
  have := List.all_eq_true.1 h.1 (row chs k) (by rw [row_get hk]; exact List.getElem_mem hk)
  unfold mayR at this
  rw [Bool.and_eq_true, decide_eq_true_eq] at this
  exact this
set_option maxHeartbeats 8000000 in
set_option maxRecDepth 100000 in
theorem side_turn (way : Int) (hw : way = -1 ∨ way = 1) (chs : List (List Int)) (A : Option Addr) (cap : Nat) (w : World) (hC : Kd.C RW w A chs.length chs) (hc : chs.length ≤ cap) (hl : chs.length ≤ 8192) (hr : ∀ xs ∈ chs, xs.length ≤ 8192) :
    Calls Tryz.prog 145 #[.slice A chs.length cap, .int .i64 way] w fun e w' => rowsR 1700 w w' e (turnS way chs) := by
  obtain ⟨T0, hT0⟩ : ∃ T0, turnS way chs = T0 := ⟨_, rfl⟩
  rw [hT0]
  have hC0 := Lib.hid hC
  have hm := fun W (h : Kd.C RW W A chs.length chs) => side_may chs A cap W h hc hl hr
  cases hmt : mayT chs with
  | false =>
    rw [hmt] at hm
    rw [turnS, hmt, Bool.false_and, if_neg (by decide)] at hT0
    replace hm := Lib.hid hm
    clear hmt hC
    replace hT0 := Lib.hid hT0
    go_enter Tryz.func145, Tryz.ntmps145
    go_wp2_with (fail)
    refine (hm.out _ hC0.out).mono ?_
    rintro e w1 ⟨rfl, m1, rfl⟩
    go_wp2_with (fail)
    go_ret2
    rw [← hT0.out]
    exact ⟨rfl, L.below_drewN (Below.refl _ _) _⟩
  | true =>
    rw [hmt] at hm
    obtain ⟨hn12, hrow⟩ := mayT_rows hmt
    replace hm := Lib.hid hm
    clear hC
    replace hT0 := Lib.hid hT0
    replace hmt := Lib.hid hmt
    obtain ⟨n0, hn0⟩ : ∃ n, (row chs 0).length = n := ⟨_, rfl⟩
    have hn8 : n0 ≤ 8192 := by rw [← hn0]; exact hr _ (by rw [row_get (by omega)]; exact List.getElem_mem _)
    rw [hn0] at hrow
    go_enter Tryz.func145, Tryz.ntmps145
    go_wp2_with (fail)
    refine (hm.out _ hC0.out).mono ?_
    rintro e w1 ⟨rfl, m1, rfl⟩
    have hB1 := L.below_drewN (Below.refl w.heap.size w) m1
    go_wp2_with (fail)
    have hS1 : Kd.S RW RT (w.drewN m1) w.heap.size (fun _ => True) (.slice none 0 0) ((outT way chs).take 0) := Kd.S_nil _ _ _ _ _
    generalize w.drewN m1 = w2 at hB1 hS1 ⊢
    go_loopg [6, 16] chs.length (fun kq v6 v16 W => ∃ (k : Nat) (out : List (List Int)), v16 = .int .i64 (k : Int) ∧ k + kq = chs.length ∧ out.length = k ∧ out = (outT way chs).take k ∧ Kd.S RW RT W w.heap.size (fun _ => True) v6 out ∧ Below w.heap.size w W)
    case atStart => exact ⟨0, [], by simp, by omega, rfl, rfl, hS1, hB1⟩
    case round =>
      clear hS1 hB1
      obtain ⟨k, out, rfl, hk, hol, hout, hS, hB⟩ := hrel
      obtain ⟨Ao, co, ev⟩ := Kd.S_slice hS
      subst ev
      have hCW := Kd.C_below hC0.out hB
      by_cases c1 : k < chs.length
      · obtain ⟨gko, rfl⟩ : ∃ j, gk = j + 1 := ⟨gk - 1, by omega⟩
        have c1d : decide ((k : Int) < (chs.length : Int)) = true := decide_eq_true (by omega)
        obtain ⟨ad, A1, k1, ead, hx, hk1, hC1⟩ := rows_at hCW k c1
        cases ead
        have p3 := eq_true (show (0 : Int) ≤ (k : Int) by omega)
        have q3 := eq_true (show (k : Int) < (chs.length : Int) by omega)
        obtain ⟨hlx, hax⟩ := hrow k c1
        have hcl := clone_any (row chs k) A1 k1 wr hC1 (by omega)
        rw [hlx] at hx hk1 hcl
        replace hcl := Lib.hid hcl
        replace hol := Lib.hid hol
        replace hout := Lib.hid hout
        go_wp2_with (fail)
        refine hcl.out.mono ?_
        rintro e w3 ⟨v9, rfl, hR9, hb9⟩
        clear hcl hC1 hx hCW
        obtain ⟨A9, c9, e9⟩ := Kd.R_slice hR9
        subst e9
        obtain ⟨X, hX⟩ : ∃ X, row chs k = X := ⟨_, rfl⟩
        obtain ⟨C0, hCz⟩ : ∃ X, row chs 0 = X := ⟨_, rfl⟩
        obtain ⟨Y, hY⟩ : ∃ Y, rowT way k C0 X = Y := ⟨_, rfl⟩
        rw [hCz] at hn0
        rw [hX] at hR9 hlx hax ⊢
        have hYl : Y.length = n0 := by rw [← hY, rowT, List.length_zipWith, hlx, hn0, Nat.min_self]
        have hc9 := (Kd.R_reads' hR9).2.1
        rw [hlx] at hR9 hc9 ⊢
        have hR90 : Kd.R (Kd.int .i64) 3 w3 wr.heap.size (fun _ => True) (.slice A9 n0 c9) (Y.take 0 ++ X.drop 0) := hR9
        clear hR9
        obtain ⟨bw, hbw⟩ : ∃ b, wr.heap.size = b := ⟨_, rfl⟩
        go_wp2_with (fail)
        obtain ⟨wr0, hwr0⟩ : ∃ W, wr = W := ⟨_, rfl⟩
        rw [hbw] at hR90
        rw [hbw, hwr0] at hb9
        rw [hwr0] at hB hS hbw
        clear hwr0
        go_loopg [25] n0 (fun kq v25 W => ∃ (j : Nat), v25 = .int .i64 (j : Int) ∧ j + kq = n0 ∧ Kd.R (Kd.int .i64) 3 W bw (fun _ => True) (.slice A9 n0 c9) (Y.take j ++ X.drop j) ∧ Below bw wr0 W)
        case atStart => exact ⟨0, by simp, by omega, hR90, hb9⟩
        case round =>
          clear hR90 hb9
          obtain ⟨j, rfl, hj, hR, hb⟩ := hrel
          have hL : (Y.take j ++ X.drop j).length = n0 := by rw [List.length_append, List.length_take, List.length_drop]; omega
          by_cases d1 : j < n0
          · have d1d : decide ((j : Int) < (n0 : Int)) = true := decide_eq_true (by omega)
            obtain ⟨g9, c9', e9, hg9, -, -⟩ := Kd.R_form hR (by omega)
            rw [hL] at e9
            cases e9
            obtain ⟨ad9, ead, hx9⟩ := Kd.at_int (Kd.R_reads' hR).2.2 (j : Int) (by omega) (by omega)
            cases ead
            obtain ⟨_, -, -, -, hfr⟩ := Kd.R_elem hR 0 (j : Int) (by omega) (by omega)
            have hfr9 := hfr 0
            have hCW := Kd.C_below hC0.out (below_trans (w2 := wr) hB (by rw [hbw]; exact hb))
            obtain ⟨ad0, A0, k0, ead0, hx0, hk0, hC2⟩ := rows_at hCW 0 (by omega)
            cases ead0
            rw [show ad.add 0 = ad by cases ad; rfl] at hx0
            rw [hCz, hn0] at hx0 hC2
            obtain ⟨ad2, ead2, hx2⟩ := Kd.at_int hC2 (j : Int) (by omega) (by omega)
            cases ead2
            rw [Int.toNat_natCast] at hx9 hfr9 hx2
            have p5 := eq_true (show (0 : Int) ≤ (j : Int) by omega)
            have q5 := eq_true (show (j : Int) < (n0 : Int) by omega)
            have q6 := eq_true (show (0 : Int) < (chs.length : Int) by omega)
            have e9 : rd (Y.take j ++ X.drop j) (j : Int) = X.getD j 0 := rd_next (by omega)
            rw [e9] at hx9
            obtain ⟨a, ha⟩ : ∃ a, X.getD j 0 = a := ⟨_, rfl⟩
            obtain ⟨b, hb2⟩ : ∃ b, rd C0 (j : Int) = b := ⟨_, rfl⟩
            rw [ha] at hx9
            rw [hb2] at hx2
            rw [add_at, Nat.zero_add] at hx9
            rw [show (Kd.int .i64).sz = 1 from rfl, Nat.mul_one, Nat.add_zero] at hfr9
            have hsa := all_getD hax (j := j) (by omega)
            rw [ha] at hsa
            have hsb := all_getD (hrow 0 (by omega)).2 (j := j) (by rw [hCz]; omega)
            rw [hCz, ← rd_nat, hb2] at hsb
            have b1 := ins_iff.1 hsa
            have b2 := ins_iff.1 hsb
            have hk2 : k = 0 ∨ k = 1 := by omega
            have hv1 : wrap64 ((k : Int) * way) = (k : Int) * way := IntWalk.wrap64_in _ (by rcases hk2 with rfl | rfl <;> rcases hw with rfl | rfl <;> decide)
            have hv2 : wrap64 ((k : Int) * way * b) = (k : Int) * way * b := IntWalk.wrap64_in _ (by rcases hk2 with rfl | rfl <;> rcases hw with rfl | rfl <;> simp <;> omega)
            have hv3 : wrap64 (a + (k : Int) * way * b) = a + (k : Int) * way * b := IntWalk.wrap64_in _ (by rcases hk2 with rfl | rfl <;> rcases hw with rfl | rfl <;> simp <;> omega)
            have hYj : Y.getD j 0 = a + (k : Int) * way * b := by
              rw [← hY, ← ha, ← hb2, rd_nat, rowT, List.getD_eq_getElem?_getD, List.getElem?_zipWith, List.getD_eq_getElem?_getD, List.getD_eq_getElem?_getD, List.getElem?_eq_getElem (show j < X.length by omega), List.getElem?_eq_getElem (show j < C0.length by omega)]
              rfl
            have hset := set_next (by omega : Y.length = X.length) (by omega) hYj
            replace ha := Lib.hid ha
            replace hb2 := Lib.hid hb2
            replace hset := Lib.hid hset
            replace hYj := Lib.hid hYj
            replace hv1 := Lib.hid hv1
            replace hv2 := Lib.hid hv2
            replace hv3 := Lib.hid hv3
            clear e9 hfr
            go_wp2_with (fail)
            go_region
            rw [hv1.out, hv2.out, hv3.out]
            have hR5 := Kd.R_putn hR (j : Int) (a + (k : Int) * way * b)
            rw [Int.toNat_natCast, hset.out] at hR5
            replace hR5 := Kd.R_drew hR5
            have hb5 := L.below_drew (hb.setCell (p := ⟨g9, j, none⟩) hg9 (.int .i64 (a + (k : Int) * way * b)))
            go_wp2_with (fail)
            obtain ⟨gi, rfl⟩ : ∃ i, gk = i + 1 := ⟨gk - 1, by omega⟩
            go_roundg gi
            case measure => omega
            case rel => exact ⟨j + 1, by simp, by omega, hR5, hb5⟩
          · have d1d : decide ((j : Int) < (n0 : Int)) = false := decide_eq_false (by omega)
            rw [List.take_of_length_le (by omega), List.drop_of_length_le (by omega), List.append_nil] at hR
            have HO : Kd.S RW RT wr w.heap.size (fun k => True ∧ ¬ bw ≤ k) (.slice Ao out.length co) out := Kd.S_mono (rows_old hS (by rw [hbw]; exact hb)) (fun k h => ⟨trivial, by rw [hbw] at h; omega⟩)
            have HB := below_trans (w2 := wr) hB (by rw [hbw]; exact hb)
            have HP : RW.M wr w.heap.size (fun k => bw ≤ k) Y [.slice A9 n0 c9] := ⟨_, rfl, Kd.R_lower (Kd.R_mono (Kd.R_bound hR) (fun k h => h.2.1)) (by rw [← hbw]; exact hB.size)⟩
            have HK : ∀ k, bw ≤ k → True ∧ some k ≠ (Value.slice Ao out.length co).ownBlock := fun k h => ⟨trivial, fun e => by have := Kd.S_lt hS k e.symm; omega⟩
            have hnext : out ++ [Y] = (outT way chs).take (k + 1) := by
              rw [hout.out, ← hY, ← hX, ← hCz, outT, List.take_succ_eq_append_getElem (show k < (List.map (fun k => rowT way k (row chs 0) (row chs k)) (List.range chs.length)).length by rw [List.length_map, List.length_range]; exact c1), List.getElem_map, List.getElem_range]
            replace hnext := Lib.hid hnext
            replace HO := Lib.hid HO
            replace HB := Lib.hid HB
            replace HP := Lib.hid HP
            replace HK := Lib.hid HK
            have hol8 : (out.length + 1) * 24 ≤ 140737488355328 := by rw [hol.out]; omega
            replace hol8 := Lib.hid hol8
            clear hR hb hS hB
            go_wp2_with ((with_reducible refine gate_builtin (b := .append) (xs := #[.tmp 45, .tmp 47]) rfl ?_); at_builtin; refine Kd.S_append RW (w0 := w) w.heap.size rfl (.tmp 45) (.tmp 47) 54 22 (.slice none 0 0) 24 rfl Tryz.underlying54 infoR rfl (by decide) (by omega) (.slice Ao out.length co) out Y [.slice A9 n0 c9] (fun _ => True) (fun k => bw ≤ k) rfl ((Eq.refl (Value.slice (some ⟨wr.heap.size, 0, none⟩) 1 1)).trans (by go_simp)) ?aP ?aK ?aF ?aO ?aB ?aS ?aL ?_; (case aP => exact HP.out); (case aK => exact HK.out); (case aF => exact (fun _ _ => trivial)); (case aO => exact HO.out); (case aB => exact HB.out); (case aS => exact HB.out.size); (case aL => exact hol8.out); intro v48 w12 hS12 hB12 hg hat; clear hg hat)
            go_roundg gko
            case measure => omega
            case rel => exact ⟨k + 1, out ++ [Y], by simp, by omega, by rw [List.length_append, hol.out]; rfl, hnext.out, hS12, hB12⟩
      · have c1d : decide ((k : Int) < (chs.length : Int)) = false := decide_eq_false (by omega)
        rw [List.take_of_length_le (by unfold outT; rw [List.length_map, List.length_range]; omega)] at hout
        have hlo : ∀ xs ∈ out, xs.length ≤ 8192 := by
          intro xs hx
          rw [hout, outT] at hx
          obtain ⟨i, hi, rfl⟩ := List.mem_map.1 hx
          rw [rowT, List.length_zipWith, (hrow i (List.mem_range.1 hi)).1]
          omega
        have hT1 := hT0.out
        rw [turnS, hmt.out, ← hout] at hT1
        clear hT0 hmt
        replace hout := Lib.hid hout
        replace hlo := Lib.hid hlo
        have hol8 : out.length ≤ 8192 := by rw [hol]; omega
        replace hol := Lib.hid hol
        obtain ⟨-, hco, hCo⟩ := Kd.S_reads' hS
        have hm2 := side_may out Ao co wr hCo hco hol8 hlo.out
        clear hol8
        cases hmo : mayT out with
        | false =>
          rw [hmo] at hm2
          rw [hmo, if_neg (by decide)] at hT1
          replace hT1 := Lib.hid hT1
          clear hmo
          replace hm2 := Lib.hid hm2
          go_wp2_with (fail)
          refine hm2.out.mono ?_
          rintro e w5 ⟨rfl, m5, rfl⟩
          go_wp2_with (fail)
          go_ret2
          rw [← hT1.out]
          exact ⟨rfl, L.below_drewN hB _⟩
        | true =>
          rw [hmo] at hm2
          rw [hmo, if_pos (by decide)] at hT1
          replace hT1 := Lib.hid hT1
          clear hmo
          replace hm2 := Lib.hid hm2
          go_wp2_with (fail)
          refine hm2.out.mono ?_
          rintro e w5 ⟨rfl, m5, rfl⟩
          go_wp2_with (fail)
          go_ret2
          rw [← hT1.out]
          exact ⟨_, rfl, Kd.S_drewN hS _, L.below_drewN hB _⟩
theorem side_put (chs : List (List Int)) (A : Option Addr) (cap : Nat) (w : World) (hC : Kd.C RW w A chs.length chs) (hc : chs.length ≤ cap) (hl : chs.length ≤ 8192) (hr : ∀ xs ∈ chs, xs.length ≤ 8192) :
    Calls Tryz.prog 104 #[.slice A chs.length cap] w fun e w' => rowsR 1700 w w' e (turnS (-1) chs) := by
  have h := side_turn (-1) (by decide) chs A cap w hC hc hl hr
  have H := Lib.hid h
  clear h
  cases hg : turnS (-1) chs with
  | none =>
    rw [hg] at H
    clear hg
    go_enter Tryz.func104, Tryz.ntmps104
    go_wp2_with (fail)
    refine H.out.mono ?_
    rintro e w1 ⟨rfl, hB⟩
    go_wp2_with (fail)
    go_ret2
    exact ⟨rfl, hB⟩
  | some ys =>
    rw [hg] at H
    clear hg
    go_enter Tryz.func104, Tryz.ntmps104
    go_wp2_with (fail)
    refine H.out.mono ?_
    rintro e w1 ⟨v, rfl, hR, hB⟩
    go_wp2_with (fail)
    go_ret2
    exact ⟨_, rfl, hR, hB⟩
theorem side_get (chs : List (List Int)) (A : Option Addr) (cap : Nat) (w : World) (hC : Kd.C RW w A chs.length chs) (hc : chs.length ≤ cap) (hl : chs.length ≤ 8192) (hr : ∀ xs ∈ chs, xs.length ≤ 8192) :
    Calls Tryz.prog 153 #[.slice A chs.length cap] w fun e w' => rowsR 1700 w w' e (turnS (1) chs) := by
  have h := side_turn (1) (by decide) chs A cap w hC hc hl hr
  have H := Lib.hid h
  clear h
  cases hg : turnS (1) chs with
  | none =>
    rw [hg] at H
    clear hg
    go_enter Tryz.func153, Tryz.ntmps153
    go_wp2_with (fail)
    refine H.out.mono ?_
    rintro e w1 ⟨rfl, hB⟩
    go_wp2_with (fail)
    go_ret2
    exact ⟨rfl, hB⟩
  | some ys =>
    rw [hg] at H
    clear hg
    go_enter Tryz.func153, Tryz.ntmps153
    go_wp2_with (fail)
    refine H.out.mono ?_
    rintro e w1 ⟨v, rfl, hR, hB⟩
    go_wp2_with (fail)
    go_ret2
    exact ⟨_, rfl, hR, hB⟩
end Go.Proofs.YtiokfaiioealdaaGreatDoor
namespace Go.Proofs.YtiokfaiioealdaaGreatDoor
set_option linter.unusedVariables false
set_option linter.unusedSimpArgs false
theorem wst_full : ∀ {n : Nat} {a : List Int}, a.all (fun x => decide (x % 2 ^ n = 0)) = true → wst n a = n
  | 0, _, _ => rfl
  | n + 1, a, h => by unfold wst; rw [if_pos h]
theorem div_less {n : Nat} {a : List Int} (h : a.all (fun x => decide (x % 2 ^ (n + 1) = 0)) = true) : a.all (fun x => decide (x % 2 ^ n = 0)) = true := by
  rw [List.all_eq_true] at h ⊢
  intro x hx
  have h1 := of_decide_eq_true (h x hx)
  refine decide_eq_true ?_
  have hd : ((2 : Int) ^ n) ∣ 2 ^ (n + 1) := ⟨2, by rw [Int.pow_succ]⟩
  exact Int.emod_eq_zero_of_dvd (Int.dvd_trans hd (Int.dvd_of_emod_eq_zero h1))
theorem wst_append : ∀ (n : Nat) (a b : List Int), wst n (a ++ b) = min (wst n a) (wst n b)
  | 0, a, b => by simp [wst]
  | n + 1, a, b => by
    have ih := wst_append n a b
    have h1 := wst_le n a
    have h2 := wst_le n b
    unfold wst
    rw [List.all_append]
    cases ha : a.all (fun x => decide (x % 2 ^ (n + 1) = 0)) <;> cases hb : b.all (fun x => decide (x % 2 ^ (n + 1) = 0))
    · simpa using ih
    · have := wst_full (div_less hb)
      simp
      omega
    · have := wst_full (div_less ha)
      simp
      omega
    · simp
theorem wst_zeros {a : List Int} (n : Nat) (h : a.any nonB = false) : wst n a = n := by
  refine wst_full (List.all_eq_true.2 fun x hx => decide_eq_true ?_)
  have h0 : nonB x = false := Bool.eq_false_iff.2 fun e => Bool.eq_false_iff.1 h (List.any_eq_true.2 ⟨x, hx, e⟩)
  have : x = 0 := by simpa [nonB] using h0
  rw [this, Int.zero_emod]
theorem non_zero {a : List Int} (h : a.any nonB = true) : ∃ x ∈ a, x ≠ 0 := by
  obtain ⟨x, hx, h0⟩ := List.any_eq_true.1 h
  exact ⟨x, hx, by simpa [nonB] using h0⟩
theorem orF_snoc : ∀ (l : List Int) (u : Nat) (x : Int), orF u (l ++ [x]) = orF u l ||| (x % 18446744073709551616).toNat
  | [], _, _ => rfl
  | y :: t, u, x => by rw [List.cons_append, orF, orF, orF_snoc t]
theorem orF_pos {a : List Int} (h : a.any nonB = true) (ha : a.all smpOk = true) : 0 < orF 0 a := by
  obtain ⟨x, hx, h0⟩ := non_zero h
  refine Nat.pos_of_ne_zero fun e => h0 (orF_zero e (fun y hy => ?_) x hx)
  have := ins_iff.1 (List.all_eq_true.1 ha y hy)
  omega
/-- May samples be, and a number of bits? -/
def mayS (n : Int) (xs : List Int) : Bool := decide (0 ≤ n) && (decide (n ≤ 15) && xs.all smpOk)
def ups (n : Nat) (xs : List Int) : List Int := xs.map fun x => x * 2 ^ n
def dwn (n : Nat) (xs : List Int) : List Int := xs.map fun x => x / 2 ^ n
def upS (n : Int) (xs : List Int) : Option (List Int) := if mayS n xs && mayS n (ups n.toNat xs) then some (ups n.toNat xs) else none
theorem mayS_iff {n : Int} {xs : List Int} : mayS n xs = true ↔ 0 ≤ n ∧ n ≤ 15 ∧ xs.all smpOk = true := by simp [mayS]
theorem sh_sizes {n : Nat} (h : n ≤ 15) : (1 : Int) ≤ 2 ^ n ∧ (2 : Int) ^ n ≤ 32768 := by
  have h0 : (0 : Int) < 2 ^ n := Int.pow_pos (by decide)
  refine ⟨h0, ?_⟩
  have := Nat.pow_le_pow_right (show 0 < 2 by decide) h
  have e : ((2 ^ n : Nat) : Int) = 2 ^ n := Int.natCast_pow 2 n
  rw [← e]
  omega
theorem up_range {x : Int} {n : Nat} (hn : n ≤ 15) (h0 : -131072 ≤ x) (h1 : x ≤ 131072) : -4294967296 ≤ x * 2 ^ n ∧ x * 2 ^ n ≤ 4294967296 := by
  obtain ⟨a, b⟩ := sh_sizes hn
  generalize (2 : Int) ^ n = p at a b ⊢
  constructor
  · have h2 := Int.mul_le_mul_of_nonneg_right h0 (show 0 ≤ p by omega)
    have h3 := Int.mul_le_mul_of_nonneg_left b (show (0 : Int) ≤ 131072 by decide)
    rw [Int.neg_mul] at h2
    omega
  · have h2 := Int.mul_le_mul_of_nonneg_right h1 (show 0 ≤ p by omega)
    have h3 := Int.mul_le_mul_of_nonneg_left b (show (0 : Int) ≤ 131072 by decide)
    omega
theorem zip_self : ∀ (xs : List Int) (way : Int), List.zipWith (fun x y => x + ((0 : Nat) : Int) * way * y) xs xs = xs
  | [], _ => rfl
  | x :: t, way => by rw [List.zipWith_cons_cons, zip_self t way]; congr 1; simp
theorem rowT_zero (way : Int) (xs : List Int) : rowT way 0 xs xs = xs := zip_self xs way
theorem rowT_one (way : Int) : ∀ xs ys : List Int, rowT way 1 xs ys = List.zipWith (fun x y => y + way * x) xs ys
  | [], [] => rfl
  | [], _ :: _ => rfl
  | _ :: _, [] => rfl
  | x :: xs, y :: ys => by
    have := rowT_one way xs ys
    unfold rowT at this ⊢
    rw [List.zipWith_cons_cons, List.zipWith_cons_cons, this]
    congr 1
    simp
theorem outT_one (way : Int) (xs : List Int) : outT way [xs] = [xs] := by
  show [rowT way 0 xs xs] = [xs]
  rw [rowT_zero]
theorem outT_two (way : Int) (xs ys : List Int) : outT way [xs, ys] = [xs, List.zipWith (fun x y => y + way * x) xs ys] := by
  show [rowT way 0 xs xs, rowT way 1 xs ys] = _
  rw [rowT_zero, rowT_one]
theorem mayT_one {xs : List Int} (h : xs.all smpOk = true) : mayT [xs] = true := by simp [mayT, mayR, row, h]
theorem mayT_two {xs ys : List Int} (h : xs.all smpOk = true) (k : ys.all smpOk = true) (hl : ys.length = xs.length) : mayT [xs, ys] = true := by simp [mayT, mayR, row, h, k, hl]
theorem low_smp {c b : Int} {l : List UInt8} {xs : List Int} (h : xs ∈ lows c b l) : xs.all smpOk = true := by
  refine List.all_eq_true.2 fun x hx => ?_
  have := (lows_row h).2 x hx
  exact ins_iff.2 (by omega)
theorem zip_way (f g : Int → Int → Int) (h : ∀ x y, f x y = g x y) (xs ys : List Int) : List.zipWith f xs ys = List.zipWith g xs ys := by
  rw [show f = g from funext fun x => funext fun y => h x y]
theorem side_put_lows {c b : Int} (hf : fOk c b = true) (l : List UInt8) : turnS (-1) (lows c b l) = some (sideP (lows c b l)) := by
  rcases lows_form hf l with ⟨rfl, xs, e⟩ | ⟨rfl, xs, ys, e⟩
  · have h := low_smp (show xs ∈ lows 1 b l by rw [e]; simp)
    rw [e, turnS, outT_one, mayT_one h]; rfl
  · have m1 : xs ∈ lows 2 b l := by rw [e]; simp
    have m2 : ys ∈ lows 2 b l := by rw [e]; simp
    have o : outT (-1) [xs, ys] = sideP [xs, ys] := by
      rw [outT_two]
      show _ = [xs, List.zipWith (fun x y => y - x) xs ys]
      rw [zip_way _ (fun x y => y - x) (fun x y => by omega)]
    have r1 := side_row hf (l := l) (xs := List.zipWith (fun x y => y - x) xs ys) (by rw [e]; exact List.mem_cons_of_mem _ (List.mem_singleton.2 rfl))
    rw [e, turnS, o, mayT_two (low_smp m1) (low_smp m2) (by rw [(lows_row m1).1, (lows_row m2).1])]
    have : mayT (sideP [xs, ys]) = true := mayT_two (low_smp m1) r1.2 (by rw [r1.1, (lows_row m1).1])
    rw [this]; rfl
theorem side_get_lows {c b : Int} (hf : fOk c b = true) (l : List UInt8) : turnS 1 (sideP (lows c b l)) = some (lows c b l) := by
  have hb := side_back hf l
  rcases lows_form hf l with ⟨rfl, xs, e⟩ | ⟨rfl, xs, ys, e⟩
  · have h := low_smp (show xs ∈ lows 1 b l by rw [e]; simp)
    rw [e]
    show turnS 1 [xs] = some [xs]
    rw [turnS, outT_one, mayT_one h]; rfl
  · have m1 : xs ∈ lows 2 b l := by rw [e]; simp
    have m2 : ys ∈ lows 2 b l := by rw [e]; simp
    have r1 := side_row hf (l := l) (xs := List.zipWith (fun x y => y - x) xs ys) (by rw [e]; exact List.mem_cons_of_mem _ (List.mem_singleton.2 rfl))
    have h3 : List.zipWith (fun x y => y + 1 * x) xs (List.zipWith (fun x y => y - x) xs ys) = ys := by
      rw [zip_way _ (fun x y => y + x) (fun x y => by omega), zip_back _ _ (by rw [(lows_row m1).1, (lows_row m2).1])]
    rw [e]
    show turnS 1 [xs, List.zipWith (fun x y => y - x) xs ys] = some [xs, ys]
    rw [turnS, outT_two, h3, mayT_two (low_smp m1) r1.2 (by rw [r1.1, (lows_row m1).1]), mayT_two (low_smp m1) (low_smp m2) (by rw [(lows_row m1).1, (lows_row m2).1])]
    rfl
theorem up_low_one {c b : Int} {l : List UInt8} {xs : List Int} (h : xs ∈ lows c b l) : upS (byOf c b l : Nat) xs = some (ups (byOf c b l) xs) := by
  have h1 := mayS_iff.2 ⟨show (0 : Int) ≤ (byOf c b l : Nat) by omega, by have := byOf_in c b l; omega, low_smp h⟩
  have h2 : (ups (byOf c b l) xs).all smpOk = true := by
    have hm : ups (byOf c b l) xs ∈ pcmG c b l := by rw [← up_lows c b l]; exact List.mem_map.2 ⟨xs, h, rfl⟩
    refine List.all_eq_true.2 fun x hx => ?_
    have := (pcmG_row hm).2 x hx
    exact ins_iff.2 (by omega)
  have h3 := mayS_iff.2 ⟨show (0 : Int) ≤ (byOf c b l : Nat) by omega, by have := byOf_in c b l; omega, h2⟩
  rw [upS, Int.toNat_natCast, h1, h3]; rfl
/-- May rows be put as bytes? -/
def smpIn (b x : Int) : Bool := decide (-(2 ^ (b.toNat - 1)) ≤ x) && decide (x < 2 ^ (b.toNat - 1))
def pOk (c b : Int) (chs : List (List Int)) : Bool :=
  fOk c b && (decide ((chs.length : Int) = c) && (decide ((row chs 0).length ≤ 4096 / fsz c b) && (decide ((row chs (c.toNat - 1)).length = (row chs 0).length) && chs.all fun xs => xs.all (smpIn b))))
def pPut (c b : Int) (chs : List (List Int)) : Option (List UInt8) := if pOk c b chs then some (pcmP c b (row chs 0).length chs) else none
/-- What frames gives. -/
def framesF (c b : Int) (own : List UInt8) (y m : Nat) : List UInt8 :=
  match getS mdot lR newM own ((m : Int) * c) with
  | none => []
  | some rs => (pPut c b (((turnS 1 ((List.range c.toNat).map fun i => (lineG ch0 ((rs.drop (i * m)).take m)).getD [])).getD []).map fun xs => (upS (y : Int) xs).getD [])).getD []
theorem pcm_row {c b : Int} (hf : fOk c b = true) {l : List UInt8} {k : Nat} (hk : k < c.toNat) : (row (pcmG c b l) k).length = l.length / fsz c b := by
  have hl := pcmG_len c b l
  rw [row_get (by omega)]
  exact (pcmG_row (List.getElem_mem _)).1
theorem pput_back {c b : Int} {l : List UInt8} (h : segOk c b l = true) : pPut c b (pcmG c b l) = some l := by
  obtain ⟨hf, hm, h0, h64⟩ := segOk_iff.1 h
  obtain ⟨f1, f4⟩ := fsz_in hf
  have hc2 := (fOk_iff.1 hf).1
  have hs := seg_many h
  have hr0 := pcm_row hf (l := l) (k := 0) (by omega)
  have hr1 := pcm_row hf (l := l) (k := c.toNat - 1) (by omega)
  have h5 : 4096 / 4 ≤ 4096 / fsz c b := Nat.div_le_div_left f4 (by omega)
  have hok : pOk c b (pcmG c b l) = true := by
    unfold pOk
    rw [hf, decide_eq_true (show ((pcmG c b l).length : Int) = c by rw [pcmG_len]; omega), decide_eq_true (show (row (pcmG c b l) 0).length ≤ 4096 / fsz c b by rw [hr0]; omega), decide_eq_true (show (row (pcmG c b l) (c.toNat - 1)).length = (row (pcmG c b l) 0).length by rw [hr0, hr1])]
    simp only [Bool.true_and]
    refine List.all_eq_true.2 fun xs hx => List.all_eq_true.2 fun x hx2 => ?_
    unfold pcmG at hx
    obtain ⟨k, -, rfl⟩ := List.mem_map.1 hx
    unfold chn at hx2
    obtain ⟨j, -, rfl⟩ := List.mem_map.1 hx2
    rcases (fOk_iff.1 hf).2 with rfl | rfl
    · have := smp_in8 l (j * c.toNat + k)
      unfold smpIn
      rw [Bool.and_eq_true, decide_eq_true_eq, decide_eq_true_eq]
      exact ⟨show -(128 : Int) ≤ _ by omega, show _ < (128 : Int) by omega⟩
    · have := smp_in 16 l (j * c.toNat + k)
      unfold smpIn
      rw [Bool.and_eq_true, decide_eq_true_eq, decide_eq_true_eq]
      exact ⟨show -(32768 : Int) ≤ _ by omega, show _ < (32768 : Int) by omega⟩
  rw [pPut, if_pos hok, hr0, pcm_back hf hm]
theorem frames_back {c b : Int} {l : List UInt8} (h : segOk c b l = true) : framesF c b (ownOf c b l) (byOf c b l) (l.length / fsz c b) = l := by
  obtain ⟨hf, hm, h0, h64⟩ := segOk_iff.1 h
  have hc2 := (fOk_iff.1 hf).1
  have hg : getS mdot lR newM (ownOf c b l) (((l.length / fsz c b : Nat) : Int) * c) = some (allOf c b l) := by
    have := put_back (all_ok h)
    rw [all_len hf] at this
    rw [show ((l.length / fsz c b : Nat) : Int) * c = ((c.toNat * (l.length / fsz c b) : Nat) : Int) by
      rw [Int.natCast_mul, Int.mul_comm]; congr 1; omega]
    exact this
  have e : ((List.range c.toNat).map fun i => (lineG ch0 (((allOf c b l).drop (i * (l.length / fsz c b))).take (l.length / fsz c b))).getD []) = sideP (lows c b l) := by
    rw [← getD_all (d := []) (sideP_len hf l)]
    refine List.map_congr_left fun i hi => ?_
    rw [all_part hf l (List.mem_range.1 hi)]
    rfl
  unfold framesF
  rw [hg]
  show (pPut c b _).getD [] = l
  rw [e, side_get_lows hf, Option.getD_some]
  have e2 : ((lows c b l).map fun xs => (upS ((byOf c b l : Nat) : Int) xs).getD []) = pcmG c b l := by
    rw [← up_lows c b l]
    refine List.map_congr_left fun xs hx => ?_
    rw [up_low_one hx]; rfl
  rw [e2, pput_back h]; rfl
end Go.Proofs.YtiokfaiioealdaaGreatDoor
