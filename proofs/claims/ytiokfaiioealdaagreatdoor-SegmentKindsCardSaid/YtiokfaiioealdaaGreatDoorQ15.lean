/- The texts behind the row, joined: MRB. -/
import Derived.Test.YtiokfaiioealdaaGreatDoorQ14
namespace Go.Proofs.YtiokfaiioealdaaGreatDoor
open Go.RowKit Go.Proofs.YtiokfaiioealdaaGreatDoorW.PrintWords Go.Proofs.YtiokfaiioealdaaGreatDoorW.PrintLast Go.Proofs.YtiokfaiioealdaaGreatDoorW.PrintMore Go.Proofs.YtiokfaiioealdaaGreatDoor.L
set_option linter.unusedVariables false
set_option linter.unusedSimpArgs false
theorem L.But.low {w W : World} {g : Nat} (h : L.But w W g) (hg : w.heap.size ≤ g) : Below w.heap.size w W := ⟨h.os, h.tape, h.output, h.size, fun i hi => h.block i hi (by omega)⟩
theorem newM_may : mMay newM = true := by decide +kernel
theorem Tab.lt {w : World} (h : Tab w) : 3 < w.heap.size := World.block_lt_of_cell? w _ (h.out 0 (by decide))
theorem putNum_in {x : Int} {a : St × Enc} (hS : SIn a.1) (hb : a.1.bits = []) (hx : numOk x = true) : SIn (putNum mdot lR x a).1 ∧ (putNum mdot lR x a).1.bits = [] := by
  have h1 := putBits_in (gBits (fld x)) a hS (bits_01 _)
  have h2 := (putBits_bits (P := mdot) (L := lR) (gBits (fld x)) a).1
  have h3 := gBits_len (fld_le hx)
  rw [hb, List.nil_append] at h2
  have h4 := gOnes_le (gBits (fld x))
  unfold putNum nxt
  refine ⟨⟨h1.hM, h1.hm, ?_, fun b hb => by cases hb⟩, rfl⟩
  simp only []
  rw [h2]
  exact ⟨by omega, by omega⟩
theorem putNums_append : ∀ (xs ys : List Int) (a : St × Enc), putNums mdot lR (xs ++ ys) a = putNums mdot lR ys (putNums mdot lR xs a)
  | [], _, _ => rfl
  | x :: r, ys, a => putNums_append r ys _
def writerC (M : List Int) (before : Int) (E : Enc) : List Value := stc M before (.slice none 0 0) (encC E)
theorem fold_wr : (((List.foldl (fun cs (x : Value × Nat) => cs.setIfInBounds x.snd x.fst) Tryz.zeroCells71 (stc newM 0 (.slice none 0 0) []).zipIdx).setIfInBounds 197 (.int .i64 0)).setIfInBounds 198 (.int .i64 4294967295)).setIfInBounds 199 (.string ⟨#[]⟩) = (writerC newM 0 enc0).toArray := by kernel_rfl
theorem fold_st : List.foldl (fun cs (x : Value × Nat) => cs.setIfInBounds x.snd x.fst) Tryz.zeroCells66 (ints newM).zipIdx = (stc newM 0 (.slice none 0 0) []).toArray := by kernel_rfl
set_option maxHeartbeats 8000000 in
set_option maxRecDepth 100000 in
theorem rput_any (rs : List Int) (A : Option Addr) (cap : Nat) (w : World) (ht : Tab w) (hC : Kd.C (Kd.int .i64) w A rs.length rs) (hc : rs.length ≤ cap) :
    Calls Tryz.prog 14 #[.slice A rs.length cap] w fun e w' => e = .returned (.tuple #[.string (if putOk rs = true then ⟨(putS mdot lR newM rs).toArray⟩ else ⟨#[]⟩), .int .i64 (if putOk rs = true then 0 else 1300)]) ∧ Below w.heap.size w w' := by
  obtain ⟨res, hres⟩ : ∃ r, Value.tuple #[.string (if putOk rs = true then ⟨(putS mdot lR newM rs).toArray⟩ else ⟨#[]⟩), .int .i64 (if putOk rs = true then 0 else 1300)] = r := ⟨_, rfl⟩
  rw [hres]
  replace hres := Lib.hid hres
  by_cases hlen : rs.length ≤ 256
  · have d1 : decide (256 < (rs.length : Int)) = false := decide_eq_false (by omega)
    have ht0 := Lib.hid ht
    have hC0 := Lib.hid hC
    have htl := ht.lt
    have hnm := fun w1 => model_new w1
    go_enter Tryz.func14, Tryz.ntmps14
    go_wp2_with (fail)
    refine (hnm _).mono ?_
    rintro e w1 ⟨rfl, hb⟩
    go_wp2_with (fail)
    rw [fold_st]
    refine (PG.coder_New.calls 0 4294967295 ⟨#[]⟩ _ rfl).mono ?_
    rintro e w2 ⟨rfl, hb2⟩
    replace hb := below_next hb hb2
    go_wp2_with (fail)
    simp only [fold_wr]
    have hI := L.BC.new w2 (writerC newM 0 enc0) 71
    have hB := L.below_alloc hb (.cells (writerC newM 0 enc0).toArray 71)
    have hgw : w.heap.size ≤ w2.heap.size := hb.size
    have hN := L.But.of_below hb w2.heap.size
    replace hN := L.But.alloc hN (.cells (writerC newM 0 enc0).toArray 71)
    have hgt : 3 ≠ w2.heap.size := Nat.ne_of_lt (Nat.lt_of_lt_of_le htl hb.size)
    generalize w2.alloc (.cells (writerC newM 0 enc0).toArray 71) = w3 at hI hB hN ⊢
    generalize w2.heap.size = g at *
    clear hb hb2 hB ht hC
    unfold writerC at hI ⊢
    generalize (stc newM 0 (.slice none 0 0) []).toArray = z0
    generalize (stc newM 0 (.slice none 0 0) (encC enc0)).toArray = z1
    go_loopg [22] rs.length (fun kq v22 W => ∃ (i : Nat) (S : St) (E : Enc), v22 = .int .i64 (i : Int) ∧ i + kq = rs.length ∧ putNums mdot lR (rs.take i) (⟨newM, 0, []⟩, enc0) = (S, E) ∧ (rs.take i).all numOk = true ∧ SIn S ∧ S.bits = [] ∧ E.ok ∧ L.BC W g 71 (stc S.M S.before (.slice none 0 0) (encC E)) ∧ L.But w W g)
    case atStart => exact ⟨0, ⟨newM, 0, []⟩, enc0, by simp, by omega, rfl, rfl, ⟨newM_length, newM_may, by decide, fun b hb => by cases hb⟩, rfl, enc0_ok, hI, hN⟩
    case round =>
      clear hI hN
      obtain ⟨i, S, E, rfl, hi, hput, hall, hS, hSb, hE, hI, hN⟩ := hrel
      have htW := ht0.out.below (hN.low hgw)
      have hCW := Kd.C_below hC0.out (hN.low hgw)
      have hEl : E.out.length ≤ 204 * i := by
        have := (putNums_len (P := mdot) (L := lR) (rs.take i) (⟨newM, 0, []⟩, enc0) hall).2
        rw [hput, List.length_take, Nat.min_eq_left (by omega)] at this
        simp only [show enc0.out.length = 0 from rfl] at this
        omega
      obtain ⟨M, before, bits⟩ := S
      simp only [] at hSb
      subst hSb
      by_cases c1 : i < rs.length
      · have c1d : decide ((i : Int) < (rs.length : Int)) = true := decide_eq_true (by omega)
        obtain ⟨ad, ead, hx⟩ := Kd.at_int hCW (i : Int) (by omega) (by omega)
        cases ead
        rw [Int.toNat_natCast] at hx
        have p3 := eq_true (show (0 : Int) ≤ (i : Int) by omega)
        have q3 := eq_true (show (i : Int) < (rs.length : Int) by omega)
        have hget := rd_get c1
        have htk := List.take_succ_eq_append_getElem c1
        have hmem : rs[i] ∈ rs := List.getElem_mem c1
        rw [← hget] at htk hmem
        generalize rd rs (i : Int) = x at *
        replace hget := Lib.hid hget
        replace htk := Lib.hid htk
        replace hput := Lib.hid hput
        replace hall := Lib.hid hall
        cases hxo : numOk x with
        | true =>
          replace hxo := Lib.hid hxo
          go_wp2_with (fail)
          refine (wnum_any _ g M before E x htW hS hI hgt hE (by omega) hxo.out).mono ?_
          rintro e w4 ⟨rfl, hI4, hN4⟩
          go_wp2_with (fail)
          obtain ⟨k, rfl⟩ : ∃ k, gk = k + 1 := ⟨gk - 1, by omega⟩
          go_roundg k
          case measure => omega
          case rel =>
            have hin := putNum_in (a := (⟨M, before, []⟩, E)) hS rfl hxo.out
            refine ⟨i + 1, (putNum mdot lR x (⟨M, before, []⟩, E)).1, (putNum mdot lR x (⟨M, before, []⟩, E)).2, by simp, by omega, ?_, ?_, hin.1, hin.2, putBits_ok (fun _ _ _ _ => mdot_in _ _ _ _) _ _ hE, hI4, hN.trans hN4⟩
            · rw [htk.out, putNums_append, hput.out]; rfl
            · rw [htk.out, List.all_append, hall.out]; simp [hxo.out]
        | false =>
          have hno : putOk rs = false := by
            unfold putOk
            have : rs.all numOk = false := List.all_eq_false.2 ⟨x, hmem, by rw [hxo]; decide⟩
            rw [this, Bool.and_false]
          replace hno := Lib.hid hno
          replace hxo := Lib.hid hxo
          go_wp2_with (fail)
          refine (wnum_no _ g x hxo.out).mono ?_
          rintro e w4 ⟨rfl, hN4⟩
          go_wp2_with (fail)
          go_ret2
          rw [← hres.out, hno.out]
          exact ⟨rfl, (hN.trans hN4).low hgw⟩
      · have c1d : decide ((i : Int) < (rs.length : Int)) = false := decide_eq_false (by omega)
        rw [List.take_of_length_le (by omega)] at hput hall
        have hyes : putOk rs = true := by unfold putOk; rw [hall, decide_eq_true hlen]; rfl
        have hps : putS mdot lR newM rs = encE E := by unfold putS; rw [hput]
        replace hyes := Lib.hid hyes
        replace hps := Lib.hid hps
        have hef := PG.end_f hE (show E.out.length ≤ 65536 by omega)
        replace hput := Lib.hid hput
        replace hall := Lib.hid hall
        replace hef := Lib.hid hef
        have y0 : wr.cell? ⟨g, 197, none⟩ = some (.int .i64 E.l) := L.BC.at_ hI (stc_tail hS.hM 0)
        have y1 : wr.cell? ⟨g, 198, none⟩ = some (.int .i64 E.h) := L.BC.at_ hI (stc_tail hS.hM 1)
        have y2 : wr.cell? ⟨g, 199, none⟩ = some (.string ⟨E.out.toArray⟩) := L.BC.at_ hI (stc_tail hS.hM 2)
        go_wp2_with (fail)
        refine (PG.coder_End.calls _ _ _ _ _ _ hef.out).mono ?_
        rintro e w4 ⟨rfl, hb4⟩
        go_wp2_with (fail)
        go_ret2
        rw [← hres.out, hyes.out, if_pos rfl, if_pos rfl, hps.out]
        exact ⟨rfl, below_next (hN.low hgw) hb4⟩
  · have d1 : decide (256 < (rs.length : Int)) = true := decide_eq_true (by omega)
    have hno : putOk rs = false := by unfold putOk; rw [decide_eq_false hlen]; rfl
    replace hno := Lib.hid hno
    go_enter Tryz.func14, Tryz.ntmps14
    go_wp2_with (fail)
    go_ret2
    rw [← hres.out, hno.out]
    exact ⟨rfl, Below.refl _ _⟩
end Go.Proofs.YtiokfaiioealdaaGreatDoor
namespace Go.Proofs.YtiokfaiioealdaaGreatDoor
open Go.RowKit Go.Proofs.YtiokfaiioealdaaGreatDoorW.PrintWords Go.Proofs.YtiokfaiioealdaaGreatDoorW.PrintLast Go.Proofs.YtiokfaiioealdaaGreatDoorW.PrintMore Go.Proofs.YtiokfaiioealdaaGreatDoor.L
set_option linter.unusedVariables false
set_option linter.unusedSimpArgs false
theorem info56 : (Tryz.prog.info? 87).map (·.size) = some 5 := by kernel_rfl
def decC (s : ByteArray) (D : Dec) : List Value := [.int .i64 D.l, .int .i64 D.h, .int .i64 (win s.data.toList D.i), .string s, .int .i64 ((D.i : Int) + 4)]
/-- What decoder.Bit answers. -/
def decR (s : ByteArray) (D : Dec) (p : Int) : Value := if (decB s.data.toList D p).i ≤ 65540 then .tuple #[.agg (decC s (decB s.data.toList D p)).toArray, .int .i64 (decV s.data.toList D p), .int .i64 0] else .tuple #[.agg #[.int .i64 0, .int .i64 0, .int .i64 0, .string ⟨#[]⟩, .int .i64 0], .int .i64 0, .int .i64 500]
theorem bc_resulttt {P : Program} {fn : Func} {p u v : Tmp} {ty : TypeId} (h : fn.results = #[.cell p ty, .tmp u, .tmp v]) (tmps : Array Value) (w : World) (g : Nat) (cs : List Value) (d : TypeDesc)
    (hp : tmps.getD p undef = .pointer (some ⟨g, 0, none⟩)) (hc : w.rangeAt g 0 cs) (hu : P.underlying ty = some d) (hd : d.isRow = true) (hi : (P.info? ty).map (·.size) = some cs.length) :
    (results fn tmps).run P w = .ok (.tuple #[.agg cs.toArray, tmps.getD u undef, tmps.getD v undef]) w := by
  have hp' : tmps[p]?.getD undef = .pointer (some ⟨g, 0, none⟩) := by simpa using hp
  simp [results, h, hp', asAddr, run_loadVar_mid w g 0 ty cs d hc hu hd hi]
set_option maxHeartbeats 8000000 in
set_option maxRecDepth 100000 in
theorem dec_bit (s : ByteArray) (D : Dec) (p : Int) (w : World) (hs : s.size ≤ 65536) (hd : PG.DOk s.data.toList D) (hi : D.i ≤ 65540) (p1 : 1 ≤ p) (p2 : p ≤ 4095) :
    Calls Tryz.prog 132 #[.agg (decC s D).toArray, .int .i64 p] w fun e w' => e = .returned (decR s D p) ∧ Below w.heap.size w w' := by
  obtain ⟨res, hres⟩ : ∃ r, decR s D p = r := ⟨_, rfl⟩
  rw [hres]
  obtain ⟨l, h, i⟩ := D
  simp only [] at hi ⊢
  have hmay := PG.dmay_f hs hd hi
  have hch := Lib.hid (PG.chance_f p1 p2)
  have hwin := win_in s.data.toList i
  obtain ⟨⟨a, c, d⟩, f1, f2⟩ := hd
  simp only [] at a c d f1 f2 hmay
  have hm := mid_in (show l < h by omega) p1 p2
  have hmid := Lib.hid (PG.mid_f a (show l < h by omega) c p1 p2)
  obtain ⟨V, hV⟩ : ∃ V, decV s.data.toList ⟨l, h, i⟩ p = V := ⟨_, rfl⟩
  obtain ⟨R, hR⟩ : ∃ R, encR ⟨l, h, []⟩ V p = R := ⟨_, rfl⟩
  have hdB : decB s.data.toList ⟨l, h, i⟩ p = ⟨R.1, R.2.1, i + R.2.2.length⟩ := by unfold decB; rw [hV, hR]
  unfold decR at hres
  rw [hdB, hV] at hres
  have hRd : R = if V = 1 then norm 4 l (mid l h p) else norm 4 (mid l h p + 1) h := by rw [← hR]; rfl
  have hVd : V = if win s.data.toList i ≤ mid l h p then 1 else 0 := by rw [← hV]; rfl
  clear hR hV hdB
  unfold decC at hres ⊢
  simp only [] at hres ⊢
  rw [show ((i + 4 : Nat) : Int) = (i : Int) + 4 by omega] at hmay
  generalize hat : (i : Int) + 4 = at0 at hmay ⊢
  generalize hx : win s.data.toList i = xw at *
  generalize mid l h p = md at *
  have wm : IntKind.i64.wrap (md + 1) = md + 1 := IntWalk.i64_in _ (by omega)
  have hq : (xw ≤ md ∧ V = 1 ∧ R = norm 4 l md) ∨ (¬ xw ≤ md ∧ V = 0 ∧ R = norm 4 (md + 1) h) := by
    by_cases hc : xw ≤ md
    · rw [if_pos hc] at hVd; subst hVd; rw [if_pos rfl] at hRd; exact .inl ⟨hc, rfl, hRd⟩
    · rw [if_neg hc] at hVd; subst hVd; rw [if_neg (by decide)] at hRd; exact .inr ⟨hc, rfl, hRd⟩
  clear hRd hVd
  replace hres := Lib.hid hres
  replace hmay := Lib.hid hmay
  replace hat := Lib.hid hat
  replace hx := Lib.hid hx
  go_enter Tryz.func132, Tryz.ntmps132
  go_wp2_with (first | ((with_reducible refine gate_dst (N := 2) rfl ?_); refine box_event ?hg (N := 2) ?hd (cs := #[.int .i64 l, .int .i64 h, .int .i64 xw, .string s, .int .i64 at0]) (t := 87) ?hr ?_; (case hd => rfl); (case hg => rfl); (case hr => first | (go_simp; done) | (go_simp; rfl)); intro gx hgx w1 hbox hb1; have hX : L.BC w1 gx 87 [.int .i64 l, .int .i64 h, .int .i64 xw, .string s, .int .i64 at0] := ⟨hbox⟩; have hB := hb1; have hlt := L.BC.lt hX; have hX1 := L.BC.alloc hX (.cells #[.int .i64 0, .int .i64 0, .int .i64 0, .string ⟨#[]⟩, .int .i64 0] 87); have hZ := L.BC.new w1 [.int .i64 0, .int .i64 0, .int .i64 0, .string ⟨#[]⟩, .int .i64 0] 87; have hB1 := L.below_alloc hB (.cells #[.int .i64 0, .int .i64 0, .int .i64 0, .string ⟨#[]⟩, .int .i64 0] 87); have hgl : w.heap.size ≤ gx := Nat.le_of_eq hgx.symm; have x0 := L.BC.at_ hX1 (o := 0) rfl; have x1 := L.BC.at_ hX1 (o := 1) rfl; have x2 := L.BC.at_ hX1 (o := 2) rfl; have x3 := L.BC.at_ hX1 (o := 3) rfl; have x4 := L.BC.at_ hX1 (o := 4) rfl; clear hbox hb1 hX hB hgx))
  have hne : w1.heap.size ≠ gx := Nat.ne_of_gt hlt
  have hgz : w.heap.size ≤ w1.heap.size := by have := hlt; omega
  generalize w1.alloc (.cells #[.int .i64 0, .int .i64 0, .int .i64 0, .string ⟨#[]⟩, .int .i64 0] 87) = w2 at hX1 hZ hB1 x0 x1 x2 x3 x4 ⊢
  generalize w1.heap.size = gz at *
  refine (PG.decoder_May.calls l h xw s at0 true _ hmay.out).mono ?_
  rintro e w3 ⟨rfl, hbl⟩
  replace hX1 := L.BC.below hX1 hbl
  replace hZ := L.BC.below hZ hbl
  replace hB1 := L.below_next hB1 hbl
  clear hbl x0 x1 x2 x3 x4
  have x0 := L.BC.at_ hX1 (o := 0) rfl; have x1 := L.BC.at_ hX1 (o := 1) rfl
  go_wp2_with (fail)
  refine (PG.coder_Chance.calls p true _ hch.out).mono ?_
  rintro e w4 ⟨rfl, ⟨⟨m4, rfl⟩⟩⟩
  replace hX1 := L.BC.drewN hX1 m4
  replace hZ := L.BC.drewN hZ m4
  replace hB1 := L.below_drewN hB1 m4
  clear x0 x1
  have x0 := L.BC.at_ hX1 (o := 0) rfl; have x1 := L.BC.at_ hX1 (o := 1) rfl
  generalize w3.drewN m4 = w5 at hX1 hZ hB1 x0 x1 ⊢
  go_wp2_with (fail)
  refine (PG.coder_Middle.calls l h p md _ hmid.out).mono ?_
  rintro e w6 ⟨rfl, ⟨⟨m6, rfl⟩⟩⟩
  replace hX1 := L.BC.drewN hX1 m6
  replace hZ := L.BC.drewN hZ m6
  replace hB1 := L.below_drewN hB1 m6
  clear x0 x1
  generalize w5.drewN m6 = w7 at hX1 hZ hB1 ⊢
  have hRl : R.2.2.length ≤ 4 := by rcases hq with ⟨-, -, hR⟩ | ⟨-, -, hR⟩ <;> rw [hR] <;> exact norm_len _ _ _
  have x0 := L.BC.at_ hX1 (o := 0) rfl; have g0 := L.BC.frozen hX1 0; have x1 := L.BC.at_ hX1 (o := 1) rfl; have g1 := L.BC.frozen hX1 1; have x2 := L.BC.at_ hX1 (o := 2) rfl
  clear hmay hch hmid
  rcases hq with ⟨hc, rfl, hR1⟩ | ⟨hc, rfl, hR1⟩
  · have dq : decide (xw ≤ md) = true := decide_eq_true (by omega)
    have q1 : 0 ≤ l := by omega
    have q2 : l ≤ md := by omega
    have q3 : md ≤ 4294967295 := by omega
    have hE4 := norm4 q1 q2 q3
    replace hc := Lib.hid hc
    go_wp2_with (fail)
    have hX9 := L.BC.set hX1 1 (.int .i64 (md))
    have hZ9 := L.BC.far hZ (p := ⟨gx, 1, none⟩) (Ne.symm hne) (.int .i64 (md))
    have hB9 := hB1.setCell (p := ⟨gx, 1, none⟩) hgl (.int .i64 (md))
    clear hX1 hZ hB1 x0 x1 x2 g0 g1 dq
    generalize w7.setCell ⟨gx, 1, none⟩ (.int .i64 (md)) = w9 at hX9 hZ9 hB9 ⊢
    go_loopg [] 5 (fun kq W => ∃ (n : Nat) (l2 h2 : Int) (i2 : Nat) (x2 at2 : Int), n + 1 = kq ∧ 0 ≤ l2 ∧ l2 ≤ h2 ∧ h2 ≤ 4294967295 ∧ Ends (norm n l2 h2).1 (norm n l2 h2).2.1 ∧ (norm n l2 h2).1 = R.1 ∧ (norm n l2 h2).2.1 = R.2.1 ∧ i2 + (norm n l2 h2).2.2.length = i + R.2.2.length ∧ i2 + n ≤ 65544 ∧ win s.data.toList i2 = x2 ∧ (i2 : Int) + 4 = at2 ∧ L.BC W gx 87 [.int .i64 l2, .int .i64 h2, .int .i64 x2, .string s, .int .i64 at2] ∧ L.BC W gz 87 [.int .i64 0, .int .i64 0, .int .i64 0, .string ⟨#[]⟩, .int .i64 0] ∧ Below w.heap.size w W)
    case atStart => exact ⟨4, l, md, i, xw, at0, rfl, q1, q2, q3, hE4, by rw [hR1], by rw [hR1], by rw [hR1], by omega, hx.out, hat.out, hX9, hZ9, hB9⟩
    case round =>
      clear hX9 hZ9 hB9 hR1 hE4 q1 q2 q3
      obtain ⟨n, l2, h2, i2, x2, at2, hn, r1, r2, r3, hE, e1, e2, e3, hi2, hx2, hat2, hX, hZ, hB⟩ := hrel
      have y0 := L.BC.at_ hX (o := 0) rfl
      have y1 := L.BC.at_ hX (o := 1) rfl
      replace hx2 := Lib.hid hx2
      replace hat2 := Lib.hid hat2
      replace e1 := Lib.hid e1
      replace e2 := Lib.hid e2
      replace e3 := Lib.hid e3
      go_wp2_with (fail)
      by_cases c : l2 / 16777216 = h2 / 16777216
      · refine (PG.coder_Gone.calls l2 h2 true _ (by rw [PG.gone_f, decide_eq_true c])).mono ?_
        rintro e wg ⟨rfl, ⟨⟨mg, rfl⟩⟩⟩
        replace hX := L.BC.drewN hX mg
        replace hZ := L.BC.drewN hZ mg
        replace hB := L.below_drewN hB mg
        clear y0 y1
        generalize wr.drewN mg = wa at hX hZ hB ⊢
        replace c := Lib.hid c
        go_wp2_with (fail)
        obtain ⟨ul, hul⟩ : ∃ ul, up l2 0 = ul := ⟨_, rfl⟩
        obtain ⟨uh, huh⟩ : ∃ uh, up h2 255 = uh := ⟨_, rfl⟩
        obtain ⟨bb, hbb⟩ : ∃ bb, byt s.data.toList (i2 + 4) = bb := ⟨_, rfl⟩
        obtain ⟨ux, hux⟩ : ∃ ux, up x2 bb = ux := ⟨_, rfl⟩
        have hbi := byt_in s.data.toList (i2 + 4)
        have hwi := win_in s.data.toList i2
        have hwu := win_up s.data.toList i2
        rw [hbb] at hbi hwu
        rw [hx2.out] at hwi hwu
        have HL := Lib.hid (PG.up_f (x := l2) (b := 0) r1 (by omega) (by omega) (by omega))
        have HH := Lib.hid (PG.up_f (x := h2) (b := 255) (by omega) r3 (by omega) (by omega))
        have HX := Lib.hid (PG.up_f (x := x2) (b := bb) hwi.1 hwi.2 hbi.1 hbi.2)
        have HA := Lib.hid (PG.at_f s (i2 + 4))
        rw [hul] at HL
        rw [huh] at HH
        rw [hux] at HX hwu
        rw [hbb, show ((i2 + 4 : Nat) : Int) = at2 by have := hat2.out; omega] at HA
        have iul := PG.up_in (x := l2) (b := 0) r1 (by omega) (by omega) (by omega)
        have iuh := PG.up_in (x := h2) (b := 255) (by omega) r3 (by omega) (by omega)
        have ilh : up l2 0 ≤ up h2 255 := by have := c.out; unfold up; omega
        rw [hul] at iul ilh
        rw [huh] at iuh ilh
        replace hwu := Lib.hid hwu
        replace hX := L.BC.drew hX
        replace hZ := L.BC.drew hZ
        replace hB := L.below_drew hB
        refine start_ (n := 20) (S := fun w' => L.BC w' gx 87 [.int .i64 l2, .int .i64 h2, .int .i64 x2, .string s, .int .i64 at2]) (ds := [15, 17, 19]) #[false, false, false, false, false, false, false, false, false, false, false, false, false, false, false, false, false, false, false, false] (by kernel_rfl) rfl rfl hX (fun hHeld => ?_)
        generalize wa.drew = wb at hX hZ hB hHeld ⊢
        refine pure_ (i := 0) (N := (some 38)) (v := ?_) (a' := ?_) #[true, false, false, false, false, false, false, false, false, false, false, false, false, false, false, false, false, false, false, false] rfl rfl (by kernel_rfl) (fun _ _ _ h => h) (Or.inl ⟨by rfl, ?_⟩) ?_ ?_
        rotate_left
        · intro w'
          go_simp
          with_reducible rfl
        rotate_left
        · simp only [Act.put, List.setIfInBounds_toArray, List.set_cons_zero, List.set_cons_succ, i64_w, i32_w]
          rfl
        refine pure_ (i := 3) (N := (some 41)) (v := ?_) (a' := ?_) #[true, false, false, true, false, false, false, false, false, false, false, false, false, false, false, false, false, false, false, false] rfl rfl (by kernel_rfl) (fun _ _ _ h => h) (Or.inl ⟨by rfl, ?_⟩) ?_ ?_
        rotate_left
        · intro w'
          go_simp
          with_reducible rfl
        rotate_left
        · simp only [Act.put, List.setIfInBounds_toArray, List.set_cons_zero, List.set_cons_succ, i64_w, i32_w]
          rfl
        refine pure_ (i := 6) (N := (some 44)) (v := ?_) (a' := ?_) #[true, false, false, true, false, false, true, false, false, false, false, false, false, false, false, false, false, false, false, false] rfl rfl (by kernel_rfl) (fun _ _ _ h => h) (Or.inl ⟨by rfl, ?_⟩) ?_ ?_
        rotate_left
        · intro w'
          go_simp
          with_reducible rfl
        rotate_left
        · simp only [Act.put, List.setIfInBounds_toArray, List.set_cons_zero, List.set_cons_succ, i64_w, i32_w]
          rfl
        refine pure_ (i := 8) (N := (some 46)) (v := ?_) (a' := ?_) #[true, false, false, true, false, false, true, false, true, false, false, false, false, false, false, false, false, false, false, false] rfl rfl (by kernel_rfl) (fun _ _ _ h => h) (Or.inl ⟨by rfl, ?_⟩) ?_ ?_
        rotate_left
        · intro w'
          go_simp
          with_reducible rfl
        rotate_left
        · simp only [Act.put, List.setIfInBounds_toArray, List.set_cons_zero, List.set_cons_succ, i64_w, i32_w]
          rfl
        refine pure_ (i := 10) (N := (some 48)) (v := ?_) (a' := ?_) #[true, false, false, true, false, false, true, false, true, false, true, false, false, false, false, false, false, false, false, false] rfl rfl (by kernel_rfl) (fun _ _ _ h => h) (Or.inl ⟨by rfl, ?_⟩) ?_ ?_
        rotate_left
        · intro w'
          go_simp
          with_reducible rfl
        rotate_left
        · simp only [Act.put, List.setIfInBounds_toArray, List.set_cons_zero, List.set_cons_succ, i64_w, i32_w]
          rfl
        refine take_ (i := 1) (N := (some 39)) (v := ?_) (a' := ?_) #[true, true, false, true, false, false, true, false, true, false, true, false, false, false, false, false, false, false, false, false] rfl rfl (by kernel_rfl) (fun _ _ _ h => h) (Or.inl ⟨by rfl, ?_⟩) hHeld ?_ ?_
        rotate_left
        · intro w' hS
          have s0 := L.BC.at_ hS (o := 0) rfl
          go_simp
          with_reducible rfl
        rotate_left
        · simp only [Act.put, List.setIfInBounds_toArray, List.set_cons_zero, List.set_cons_succ, i64_w, i32_w]
          rfl
        refine take_ (i := 4) (N := (some 42)) (v := ?_) (a' := ?_) #[true, true, false, true, true, false, true, false, true, false, true, false, false, false, false, false, false, false, false, false] rfl rfl (by kernel_rfl) (fun _ _ _ h => h) (Or.inl ⟨by rfl, ?_⟩) hHeld ?_ ?_
        rotate_left
        · intro w' hS
          have s1 := L.BC.at_ hS (o := 1) rfl
          go_simp
          with_reducible rfl
        rotate_left
        · simp only [Act.put, List.setIfInBounds_toArray, List.set_cons_zero, List.set_cons_succ, i64_w, i32_w]
          rfl
        refine take_ (i := 7) (N := (some 45)) (v := ?_) (a' := ?_) #[true, true, false, true, true, false, true, true, true, false, true, false, false, false, false, false, false, false, false, false] rfl rfl (by kernel_rfl) (fun _ _ _ h => h) (Or.inl ⟨by rfl, ?_⟩) hHeld ?_ ?_
        rotate_left
        · intro w' hS
          have s2 := L.BC.at_ hS (o := 2) rfl
          go_simp
          with_reducible rfl
        rotate_left
        · simp only [Act.put, List.setIfInBounds_toArray, List.set_cons_zero, List.set_cons_succ, i64_w, i32_w]
          rfl
        refine take_ (i := 9) (N := (some 47)) (v := ?_) (a' := ?_) #[true, true, false, true, true, false, true, true, true, true, true, false, false, false, false, false, false, false, false, false] rfl rfl (by kernel_rfl) (fun _ _ _ h => h) (Or.inl ⟨by rfl, ?_⟩) hHeld ?_ ?_
        rotate_left
        · intro w' hS
          have s3 := L.BC.at_ hS (o := 3) rfl
          go_simp
          with_reducible rfl
        rotate_left
        · simp only [Act.put, List.setIfInBounds_toArray, List.set_cons_zero, List.set_cons_succ, i64_w, i32_w]
          rfl
        refine take_ (i := 11) (N := (some 49)) (v := ?_) (a' := ?_) #[true, true, false, true, true, false, true, true, true, true, true, true, false, false, false, false, false, false, false, false] rfl rfl (by kernel_rfl) (fun _ _ _ h => h) (Or.inl ⟨by rfl, ?_⟩) hHeld ?_ ?_
        rotate_left
        · intro w' hS
          have s4 := L.BC.at_ hS (o := 4) rfl
          go_simp
          with_reducible rfl
        rotate_left
        · simp only [Act.put, List.setIfInBounds_toArray, List.set_cons_zero, List.set_cons_succ, i64_w, i32_w]
          rfl
        refine one_ (i := 2) (N := (some 40)) #[true, true, true, true, true, false, true, true, true, true, true, true, false, false, false, false, false, false, false, false] rfl rfl (by kernel_rfl) (by decide) (fun K hK => ?_)
        refine goes_ Tryz.func89 (by kernel_rfl) rfl #[.int .i64 l2, .int .i64 0] (by rfl) rfl rfl (by (try simp only [List.map_toArray, List.map_cons, List.map_nil]); first | done | rfl) ?_
        refine (PG.coder_Up.calls l2 0 _ _ HL.out).mono ?_
        rintro e we ⟨rfl, ⟨⟨mmw_c, rfl⟩⟩⟩
        refine ⟨_, rfl, ?_⟩
        replace hX := L.BC.drewN hX mmw_c
        replace hZ := L.BC.drewN hZ mmw_c
        replace hB := L.below_drewN hB mmw_c
        clear hHeld
        refine hK.out _ _ hX (fun hHeld => ?_)
        clear hK K
        generalize wb.drewN mmw_c = w_c at hX hZ hB hHeld ⊢
        refine norm_ (a' := ?_) ?_ ?_
        rotate_left
        · show Act.put _ (some 40) _ = _
          simp only [Act.put, List.setIfInBounds_toArray, List.set_cons_zero, List.set_cons_succ, i64_w, i32_w]
          rfl
        refine pure_ (i := 14) (N := (some 52)) (v := ?_) (a' := ?_) #[true, true, true, true, true, false, true, true, true, true, true, true, false, false, true, false, false, false, false, false] rfl rfl (by kernel_rfl) (fun _ _ _ h => h) (Or.inl ⟨by rfl, ?_⟩) ?_ ?_
        rotate_left
        · intro w'
          go_simp
          with_reducible rfl
        rotate_left
        · simp only [Act.put, List.setIfInBounds_toArray, List.set_cons_zero, List.set_cons_succ, i64_w, i32_w]
          rfl
        refine one_ (i := 5) (N := (some 43)) #[true, true, true, true, true, true, true, true, true, true, true, true, false, false, true, false, false, false, false, false] rfl rfl (by kernel_rfl) (by decide) (fun K hK => ?_)
        refine goes_ Tryz.func89 (by kernel_rfl) rfl #[.int .i64 h2, .int .i64 255] (by rfl) rfl rfl (by (try simp only [List.map_toArray, List.map_cons, List.map_nil]); first | done | rfl) ?_
        refine (PG.coder_Up.calls h2 255 _ _ HH.out).mono ?_
        rintro e we ⟨rfl, ⟨⟨mmw_d, rfl⟩⟩⟩
        refine ⟨_, rfl, ?_⟩
        replace hX := L.BC.drewN hX mmw_d
        replace hZ := L.BC.drewN hZ mmw_d
        replace hB := L.below_drewN hB mmw_d
        clear hHeld
        refine hK.out _ _ hX (fun hHeld => ?_)
        clear hK K
        generalize w_c.drewN mmw_d = w_d at hX hZ hB hHeld ⊢
        refine norm_ (a' := ?_) ?_ ?_
        rotate_left
        · show Act.put _ (some 43) _ = _
          simp only [Act.put, List.setIfInBounds_toArray, List.set_cons_zero, List.set_cons_succ, i64_w, i32_w]
          rfl
        refine one_ (i := 12) (N := (some 50)) #[true, true, true, true, true, true, true, true, true, true, true, true, true, false, true, false, false, false, false, false] rfl rfl (by kernel_rfl) (by decide) (fun K hK => ?_)
        refine goes_ Tryz.func90 (by kernel_rfl) rfl #[.string s, .int .i64 at2] (by rfl) rfl rfl (by (try simp only [List.map_toArray, List.map_cons, List.map_nil]); first | done | rfl) ?_
        refine (PG.decoder_at.calls s at2 _ _ HA.out).mono ?_
        rintro e we ⟨rfl, ⟨⟨mmw_e, rfl⟩⟩⟩
        refine ⟨_, rfl, ?_⟩
        replace hX := L.BC.drewN hX mmw_e
        replace hZ := L.BC.drewN hZ mmw_e
        replace hB := L.below_drewN hB mmw_e
        clear hHeld
        refine hK.out _ _ hX (fun hHeld => ?_)
        clear hK K
        generalize w_d.drewN mmw_e = w_e at hX hZ hB hHeld ⊢
        refine norm_ (a' := ?_) ?_ ?_
        rotate_left
        · show Act.put _ (some 50) _ = _
          simp only [Act.put, List.setIfInBounds_toArray, List.set_cons_zero, List.set_cons_succ, i64_w, i32_w]
          rfl
        refine one_ (i := 13) (N := (some 51)) #[true, true, true, true, true, true, true, true, true, true, true, true, true, true, true, false, false, false, false, false] rfl rfl (by kernel_rfl) (by decide) (fun K hK => ?_)
        refine goes_ Tryz.func89 (by kernel_rfl) rfl #[.int .i64 x2, .int .i64 bb] (by rfl) rfl rfl (by (try simp only [List.map_toArray, List.map_cons, List.map_nil]); first | done | rfl) ?_
        refine (PG.coder_Up.calls x2 bb _ _ HX.out).mono ?_
        rintro e we ⟨rfl, ⟨⟨mmw_f, rfl⟩⟩⟩
        refine ⟨_, rfl, ?_⟩
        replace hX := L.BC.drewN hX mmw_f
        replace hZ := L.BC.drewN hZ mmw_f
        replace hB := L.below_drewN hB mmw_f
        clear hHeld
        refine hK.out _ _ hX (fun hHeld => ?_)
        clear hK K
        generalize w_e.drewN mmw_f = w_f at hX hZ hB hHeld ⊢
        refine norm_ (a' := ?_) ?_ ?_
        rotate_left
        · show Act.put _ (some 51) _ = _
          simp only [Act.put, List.setIfInBounds_toArray, List.set_cons_zero, List.set_cons_succ, i64_w, i32_w]
          rfl
        refine last_ (i := 15) (N := none) #[true, true, true, true, true, true, true, true, true, true, true, true, true, true, true, true, false, false, false, false] rfl rfl (by kernel_rfl) (by decide) (fun K hK => ?_)
        have y := L.BC.at_ hX (o := 0) rfl
        have fz := L.BC.frozen hX 0
        refine skip_ (w1 := w_f.setCell ⟨gx, 0, none⟩ (.int .i64 ul)) (by rfl) rfl ?_ ?_
        · go_simp
        replace hX := L.BC.set hX 0 (.int .i64 ul)
        replace hZ := L.BC.far hZ (p := ⟨gx, 0, none⟩) (Ne.symm hne) (.int .i64 ul)
        replace hB := hB.setCell (p := ⟨gx, 0, none⟩) hgl (.int .i64 ul)
        clear y fz hHeld
        refine hK.out _ _ ?_
        clear hK K
        generalize w_f.setCell ⟨gx, 0, none⟩ (.int .i64 ul) = w_g at hX hZ hB ⊢
        refine pure_ (i := 16) (N := (some 53)) (v := ?_) (a' := ?_) #[true, true, true, true, true, true, true, true, true, true, true, true, true, true, true, true, true, false, false, false] rfl rfl (by kernel_rfl) (fun _ _ _ h => h) (Or.inl ⟨by rfl, ?_⟩) ?_ ?_
        rotate_left
        · intro w'
          go_simp
          with_reducible rfl
        rotate_left
        · simp only [Act.put, List.setIfInBounds_toArray, List.set_cons_zero, List.set_cons_succ, i64_w, i32_w]
          rfl
        refine last_ (i := 17) (N := none) #[true, true, true, true, true, true, true, true, true, true, true, true, true, true, true, true, true, true, false, false] rfl rfl (by kernel_rfl) (by decide) (fun K hK => ?_)
        have y := L.BC.at_ hX (o := 1) rfl
        have fz := L.BC.frozen hX 1
        refine skip_ (w1 := w_g.setCell ⟨gx, 1, none⟩ (.int .i64 uh)) (by rfl) rfl ?_ ?_
        · go_simp
        replace hX := L.BC.set hX 1 (.int .i64 uh)
        replace hZ := L.BC.far hZ (p := ⟨gx, 1, none⟩) (Ne.symm hne) (.int .i64 uh)
        replace hB := hB.setCell (p := ⟨gx, 1, none⟩) hgl (.int .i64 uh)
        clear y fz
        refine hK.out _ _ ?_
        clear hK K
        generalize w_g.setCell ⟨gx, 1, none⟩ (.int .i64 uh) = w_h at hX hZ hB ⊢
        refine pure_ (i := 18) (N := (some 54)) (v := ?_) (a' := ?_) #[true, true, true, true, true, true, true, true, true, true, true, true, true, true, true, true, true, true, true, false] rfl rfl (by kernel_rfl) (fun _ _ _ h => h) (Or.inl ⟨by rfl, ?_⟩) ?_ ?_
        rotate_left
        · intro w'
          go_simp
          with_reducible rfl
        rotate_left
        · simp only [Act.put, List.setIfInBounds_toArray, List.set_cons_zero, List.set_cons_succ, i64_w, i32_w]
          rfl
        refine last_ (i := 19) (N := none) #[true, true, true, true, true, true, true, true, true, true, true, true, true, true, true, true, true, true, true, true] rfl rfl (by kernel_rfl) (by decide) (fun K hK => ?_)
        have y := L.BC.at_ hX (o := 2) rfl
        have fz := L.BC.frozen hX 2
        refine skip_ (w1 := w_h.setCell ⟨gx, 2, none⟩ (.int .i64 ux)) (by rfl) rfl ?_ ?_
        · go_simp
        replace hX := L.BC.set hX 2 (.int .i64 ux)
        replace hZ := L.BC.far hZ (p := ⟨gx, 2, none⟩) (Ne.symm hne) (.int .i64 ux)
        replace hB := hB.setCell (p := ⟨gx, 2, none⟩) hgl (.int .i64 ux)
        clear y fz
        refine hK.out _ _ ?_
        clear hK K
        generalize w_h.setCell ⟨gx, 2, none⟩ (.int .i64 ux) = w_k at hX hZ hB ⊢
        refine done_ (by kernel_rfl) ?_
        have y4 := L.BC.at_ hX (o := 4) rfl
        have f4 := L.BC.frozen hX 4
        cases n with
        | zero => exact absurd c.out (by have := hE.2.2; simp only [norm] at this; omega)
        | succ n =>
          have wm2 : IntKind.i64.wrap (at2 + 1) = at2 + 1 := IntWalk.i64_in _ (by have := hat2.out; omega)
          have e1 := e1.out
          have e2 := e2.out
          have e3 := e3.out
          rw [norm, if_pos c.out] at hE e1 e2 e3
          rw [hul, huh] at hE e1 e2 e3
          simp only [List.length_cons] at e3
          replace e1 := Lib.hid e1
          replace e2 := Lib.hid e2
          go_wp2_with (fail)
          replace hX := L.BC.set hX 4 (.int .i64 (at2 + 1))
          replace hZ := L.BC.far hZ (p := ⟨gx, 4, none⟩) (Ne.symm hne) (.int .i64 (at2 + 1))
          replace hB := hB.setCell (p := ⟨gx, 4, none⟩) hgl (.int .i64 (at2 + 1))
          clear y4 f4
          generalize w_k.setCell ⟨gx, 4, none⟩ (.int .i64 (at2 + 1)) = k2 at hX hZ hB ⊢
          obtain ⟨kk, rfl⟩ : ∃ k, gk = k + 1 := ⟨n + 1, by omega⟩
          go_roundg kk
          case measure => omega
          case rel => exact ⟨n, ul, uh, i2 + 1, ux, at2 + 1, by omega, iul.1, ilh, iuh.2, hE, e1.out, e2.out, by omega, by omega, hwu.out, by have := hat2.out; omega, hX, hZ, hB⟩
      · have hnorm : norm n l2 h2 = (l2, h2, []) := by
          cases n with
          | zero => rfl
          | succ n => rw [norm, if_neg c]
        have e1 := e1.out
        have e2 := e2.out
        have e3 := e3.out
        rw [hnorm] at e1 e2 e3
        simp only [List.length_nil, Nat.add_zero] at e1 e2 e3
        refine (PG.coder_Gone.calls l2 h2 false _ (by rw [PG.gone_f, decide_eq_false c])).mono ?_
        rintro e wg ⟨rfl, ⟨⟨mg, rfl⟩⟩⟩
        replace hX := L.BC.drewN hX mg
        replace hZ := L.BC.drewN hZ mg
        replace hB := L.below_drewN hB mg
        clear y0 y1
        generalize wr.drewN mg = wa at hX hZ hB ⊢
        have y0 := L.BC.at_ hX (o := 0) rfl
        have y1 := L.BC.at_ hX (o := 1) rfl
        have y2 := L.BC.at_ hX (o := 2) rfl
        have y3 := L.BC.at_ hX (o := 3) rfl
        have y4 := L.BC.at_ hX (o := 4) rfl
        have z0 := L.BC.at_ hZ (o := 0) rfl
        have z1 := L.BC.at_ hZ (o := 1) rfl
        have z2 := L.BC.at_ hZ (o := 2) rfl
        have z3 := L.BC.at_ hZ (o := 3) rfl
        have z4 := L.BC.at_ hZ (o := 4) rfl
        have k0 := L.BC.frozen hZ 0
        have k1 := L.BC.frozen hZ 1
        have k2 := L.BC.frozen hZ 2
        have k3 := L.BC.frozen hZ 3
        have k4 := L.BC.frozen hZ 4
        replace c := Lib.hid c
        have hres := hres.out
        rw [← e1, ← e2, ← e3, hx2.out] at hres
        by_cases cb : i2 ≤ 65540
        · rw [if_pos cb, hat2.out] at hres
          have d5 : decide (65544 < at2) = false := decide_eq_false (by have := hat2.out; omega)
          replace hres := Lib.hid hres
          replace e1 := Lib.hid e1
          replace e2 := Lib.hid e2
          replace e3 := Lib.hid e3
          go_wp2_with (fail)
          have hZ' := L.BC.set (L.BC.set (L.BC.set (L.BC.set (L.BC.set hZ 0 (.int .i64 l2)) 1 (.int .i64 h2)) 2 (.int .i64 x2)) 3 (.string s)) 4 (.int .i64 at2)
          have hB' := ((((hB.setCell (p := ⟨gz, 0, none⟩) hgz (.int .i64 l2)).setCell (p := ⟨gz, 1, none⟩) hgz (.int .i64 h2)).setCell (p := ⟨gz, 2, none⟩) hgz (.int .i64 x2)).setCell (p := ⟨gz, 3, none⟩) hgz (.string s)).setCell (p := ⟨gz, 4, none⟩) hgz (.int .i64 at2)
          refine bodyPost_ret (bc_resulttt (P := Tryz.prog) Tryz.results132 _ _ gz [.int .i64 l2, .int .i64 h2, .int .i64 x2, .string s, .int .i64 at2] _ rfl hZ'.range Tryz.underlying87 rfl info56) rfl ⟨?_, hB'⟩
          rw [← hres.out]
          rfl
        · rw [if_neg cb] at hres
          have d5 : decide (65544 < at2) = true := decide_eq_true (by have := hat2.out; omega)
          replace hres := Lib.hid hres
          replace e1 := Lib.hid e1
          replace e2 := Lib.hid e2
          replace e3 := Lib.hid e3
          go_wp2_with (fail)
          have hZ' := L.BC.set (L.BC.set (L.BC.set (L.BC.set (L.BC.set hZ 0 (.int .i64 0)) 1 (.int .i64 0)) 2 (.int .i64 0)) 3 (.string ⟨#[]⟩)) 4 (.int .i64 0)
          have hB' := ((((hB.setCell (p := ⟨gz, 0, none⟩) hgz (.int .i64 0)).setCell (p := ⟨gz, 1, none⟩) hgz (.int .i64 0)).setCell (p := ⟨gz, 2, none⟩) hgz (.int .i64 0)).setCell (p := ⟨gz, 3, none⟩) hgz (.string ⟨#[]⟩)).setCell (p := ⟨gz, 4, none⟩) hgz (.int .i64 0)
          refine bodyPost_ret (bc_resulttt (P := Tryz.prog) Tryz.results132 _ _ gz [.int .i64 0, .int .i64 0, .int .i64 0, .string ⟨#[]⟩, .int .i64 0] _ rfl hZ'.range Tryz.underlying87 rfl info56) rfl ⟨?_, hB'⟩
          rw [← hres.out]
          rfl
  · have dq : decide (xw ≤ md) = false := decide_eq_false (by omega)
    have q1 : 0 ≤ (md + 1) := by omega
    have q2 : (md + 1) ≤ h := by omega
    have q3 : h ≤ 4294967295 := by omega
    have hE4 := norm4 q1 q2 q3
    replace hc := Lib.hid hc
    go_wp2_with (fail)
    have hX9 := L.BC.set hX1 0 (.int .i64 (md + 1))
    have hZ9 := L.BC.far hZ (p := ⟨gx, 0, none⟩) (Ne.symm hne) (.int .i64 (md + 1))
    have hB9 := hB1.setCell (p := ⟨gx, 0, none⟩) hgl (.int .i64 (md + 1))
    clear hX1 hZ hB1 x0 x1 x2 g0 g1 dq
    generalize w7.setCell ⟨gx, 0, none⟩ (.int .i64 (md + 1)) = w9 at hX9 hZ9 hB9 ⊢
    go_loopg [] 5 (fun kq W => ∃ (n : Nat) (l2 h2 : Int) (i2 : Nat) (x2 at2 : Int), n + 1 = kq ∧ 0 ≤ l2 ∧ l2 ≤ h2 ∧ h2 ≤ 4294967295 ∧ Ends (norm n l2 h2).1 (norm n l2 h2).2.1 ∧ (norm n l2 h2).1 = R.1 ∧ (norm n l2 h2).2.1 = R.2.1 ∧ i2 + (norm n l2 h2).2.2.length = i + R.2.2.length ∧ i2 + n ≤ 65544 ∧ win s.data.toList i2 = x2 ∧ (i2 : Int) + 4 = at2 ∧ L.BC W gx 87 [.int .i64 l2, .int .i64 h2, .int .i64 x2, .string s, .int .i64 at2] ∧ L.BC W gz 87 [.int .i64 0, .int .i64 0, .int .i64 0, .string ⟨#[]⟩, .int .i64 0] ∧ Below w.heap.size w W)
    case atStart => exact ⟨4, (md + 1), h, i, xw, at0, rfl, q1, q2, q3, hE4, by rw [hR1], by rw [hR1], by rw [hR1], by omega, hx.out, hat.out, hX9, hZ9, hB9⟩
    case round =>
      clear hX9 hZ9 hB9 hR1 hE4 q1 q2 q3
      obtain ⟨n, l2, h2, i2, x2, at2, hn, r1, r2, r3, hE, e1, e2, e3, hi2, hx2, hat2, hX, hZ, hB⟩ := hrel
      have y0 := L.BC.at_ hX (o := 0) rfl
      have y1 := L.BC.at_ hX (o := 1) rfl
      replace hx2 := Lib.hid hx2
      replace hat2 := Lib.hid hat2
      replace e1 := Lib.hid e1
      replace e2 := Lib.hid e2
      replace e3 := Lib.hid e3
      go_wp2_with (fail)
      by_cases c : l2 / 16777216 = h2 / 16777216
      · refine (PG.coder_Gone.calls l2 h2 true _ (by rw [PG.gone_f, decide_eq_true c])).mono ?_
        rintro e wg ⟨rfl, ⟨⟨mg, rfl⟩⟩⟩
        replace hX := L.BC.drewN hX mg
        replace hZ := L.BC.drewN hZ mg
        replace hB := L.below_drewN hB mg
        clear y0 y1
        generalize wr.drewN mg = wa at hX hZ hB ⊢
        replace c := Lib.hid c
        go_wp2_with (fail)
        obtain ⟨ul, hul⟩ : ∃ ul, up l2 0 = ul := ⟨_, rfl⟩
        obtain ⟨uh, huh⟩ : ∃ uh, up h2 255 = uh := ⟨_, rfl⟩
        obtain ⟨bb, hbb⟩ : ∃ bb, byt s.data.toList (i2 + 4) = bb := ⟨_, rfl⟩
        obtain ⟨ux, hux⟩ : ∃ ux, up x2 bb = ux := ⟨_, rfl⟩
        have hbi := byt_in s.data.toList (i2 + 4)
        have hwi := win_in s.data.toList i2
        have hwu := win_up s.data.toList i2
        rw [hbb] at hbi hwu
        rw [hx2.out] at hwi hwu
        have HL := Lib.hid (PG.up_f (x := l2) (b := 0) r1 (by omega) (by omega) (by omega))
        have HH := Lib.hid (PG.up_f (x := h2) (b := 255) (by omega) r3 (by omega) (by omega))
        have HX := Lib.hid (PG.up_f (x := x2) (b := bb) hwi.1 hwi.2 hbi.1 hbi.2)
        have HA := Lib.hid (PG.at_f s (i2 + 4))
        rw [hul] at HL
        rw [huh] at HH
        rw [hux] at HX hwu
        rw [hbb, show ((i2 + 4 : Nat) : Int) = at2 by have := hat2.out; omega] at HA
        have iul := PG.up_in (x := l2) (b := 0) r1 (by omega) (by omega) (by omega)
        have iuh := PG.up_in (x := h2) (b := 255) (by omega) r3 (by omega) (by omega)
        have ilh : up l2 0 ≤ up h2 255 := by have := c.out; unfold up; omega
        rw [hul] at iul ilh
        rw [huh] at iuh ilh
        replace hwu := Lib.hid hwu
        replace hX := L.BC.drew hX
        replace hZ := L.BC.drew hZ
        replace hB := L.below_drew hB
        refine start_ (n := 20) (S := fun w' => L.BC w' gx 87 [.int .i64 l2, .int .i64 h2, .int .i64 x2, .string s, .int .i64 at2]) (ds := [15, 17, 19]) #[false, false, false, false, false, false, false, false, false, false, false, false, false, false, false, false, false, false, false, false] (by kernel_rfl) rfl rfl hX (fun hHeld => ?_)
        generalize wa.drew = wb at hX hZ hB hHeld ⊢
        refine pure_ (i := 0) (N := (some 38)) (v := ?_) (a' := ?_) #[true, false, false, false, false, false, false, false, false, false, false, false, false, false, false, false, false, false, false, false] rfl rfl (by kernel_rfl) (fun _ _ _ h => h) (Or.inl ⟨by rfl, ?_⟩) ?_ ?_
        rotate_left
        · intro w'
          go_simp
          with_reducible rfl
        rotate_left
        · simp only [Act.put, List.setIfInBounds_toArray, List.set_cons_zero, List.set_cons_succ, i64_w, i32_w]
          rfl
        refine pure_ (i := 3) (N := (some 41)) (v := ?_) (a' := ?_) #[true, false, false, true, false, false, false, false, false, false, false, false, false, false, false, false, false, false, false, false] rfl rfl (by kernel_rfl) (fun _ _ _ h => h) (Or.inl ⟨by rfl, ?_⟩) ?_ ?_
        rotate_left
        · intro w'
          go_simp
          with_reducible rfl
        rotate_left
        · simp only [Act.put, List.setIfInBounds_toArray, List.set_cons_zero, List.set_cons_succ, i64_w, i32_w]
          rfl
        refine pure_ (i := 6) (N := (some 44)) (v := ?_) (a' := ?_) #[true, false, false, true, false, false, true, false, false, false, false, false, false, false, false, false, false, false, false, false] rfl rfl (by kernel_rfl) (fun _ _ _ h => h) (Or.inl ⟨by rfl, ?_⟩) ?_ ?_
        rotate_left
        · intro w'
          go_simp
          with_reducible rfl
        rotate_left
        · simp only [Act.put, List.setIfInBounds_toArray, List.set_cons_zero, List.set_cons_succ, i64_w, i32_w]
          rfl
        refine pure_ (i := 8) (N := (some 46)) (v := ?_) (a' := ?_) #[true, false, false, true, false, false, true, false, true, false, false, false, false, false, false, false, false, false, false, false] rfl rfl (by kernel_rfl) (fun _ _ _ h => h) (Or.inl ⟨by rfl, ?_⟩) ?_ ?_
        rotate_left
        · intro w'
          go_simp
          with_reducible rfl
        rotate_left
        · simp only [Act.put, List.setIfInBounds_toArray, List.set_cons_zero, List.set_cons_succ, i64_w, i32_w]
          rfl
        refine pure_ (i := 10) (N := (some 48)) (v := ?_) (a' := ?_) #[true, false, false, true, false, false, true, false, true, false, true, false, false, false, false, false, false, false, false, false] rfl rfl (by kernel_rfl) (fun _ _ _ h => h) (Or.inl ⟨by rfl, ?_⟩) ?_ ?_
        rotate_left
        · intro w'
          go_simp
          with_reducible rfl
        rotate_left
        · simp only [Act.put, List.setIfInBounds_toArray, List.set_cons_zero, List.set_cons_succ, i64_w, i32_w]
          rfl
        refine take_ (i := 1) (N := (some 39)) (v := ?_) (a' := ?_) #[true, true, false, true, false, false, true, false, true, false, true, false, false, false, false, false, false, false, false, false] rfl rfl (by kernel_rfl) (fun _ _ _ h => h) (Or.inl ⟨by rfl, ?_⟩) hHeld ?_ ?_
        rotate_left
        · intro w' hS
          have s0 := L.BC.at_ hS (o := 0) rfl
          go_simp
          with_reducible rfl
        rotate_left
        · simp only [Act.put, List.setIfInBounds_toArray, List.set_cons_zero, List.set_cons_succ, i64_w, i32_w]
          rfl
        refine take_ (i := 4) (N := (some 42)) (v := ?_) (a' := ?_) #[true, true, false, true, true, false, true, false, true, false, true, false, false, false, false, false, false, false, false, false] rfl rfl (by kernel_rfl) (fun _ _ _ h => h) (Or.inl ⟨by rfl, ?_⟩) hHeld ?_ ?_
        rotate_left
        · intro w' hS
          have s1 := L.BC.at_ hS (o := 1) rfl
          go_simp
          with_reducible rfl
        rotate_left
        · simp only [Act.put, List.setIfInBounds_toArray, List.set_cons_zero, List.set_cons_succ, i64_w, i32_w]
          rfl
        refine take_ (i := 7) (N := (some 45)) (v := ?_) (a' := ?_) #[true, true, false, true, true, false, true, true, true, false, true, false, false, false, false, false, false, false, false, false] rfl rfl (by kernel_rfl) (fun _ _ _ h => h) (Or.inl ⟨by rfl, ?_⟩) hHeld ?_ ?_
        rotate_left
        · intro w' hS
          have s2 := L.BC.at_ hS (o := 2) rfl
          go_simp
          with_reducible rfl
        rotate_left
        · simp only [Act.put, List.setIfInBounds_toArray, List.set_cons_zero, List.set_cons_succ, i64_w, i32_w]
          rfl
        refine take_ (i := 9) (N := (some 47)) (v := ?_) (a' := ?_) #[true, true, false, true, true, false, true, true, true, true, true, false, false, false, false, false, false, false, false, false] rfl rfl (by kernel_rfl) (fun _ _ _ h => h) (Or.inl ⟨by rfl, ?_⟩) hHeld ?_ ?_
        rotate_left
        · intro w' hS
          have s3 := L.BC.at_ hS (o := 3) rfl
          go_simp
          with_reducible rfl
        rotate_left
        · simp only [Act.put, List.setIfInBounds_toArray, List.set_cons_zero, List.set_cons_succ, i64_w, i32_w]
          rfl
        refine take_ (i := 11) (N := (some 49)) (v := ?_) (a' := ?_) #[true, true, false, true, true, false, true, true, true, true, true, true, false, false, false, false, false, false, false, false] rfl rfl (by kernel_rfl) (fun _ _ _ h => h) (Or.inl ⟨by rfl, ?_⟩) hHeld ?_ ?_
        rotate_left
        · intro w' hS
          have s4 := L.BC.at_ hS (o := 4) rfl
          go_simp
          with_reducible rfl
        rotate_left
        · simp only [Act.put, List.setIfInBounds_toArray, List.set_cons_zero, List.set_cons_succ, i64_w, i32_w]
          rfl
        refine one_ (i := 2) (N := (some 40)) #[true, true, true, true, true, false, true, true, true, true, true, true, false, false, false, false, false, false, false, false] rfl rfl (by kernel_rfl) (by decide) (fun K hK => ?_)
        refine goes_ Tryz.func89 (by kernel_rfl) rfl #[.int .i64 l2, .int .i64 0] (by rfl) rfl rfl (by (try simp only [List.map_toArray, List.map_cons, List.map_nil]); first | done | rfl) ?_
        refine (PG.coder_Up.calls l2 0 _ _ HL.out).mono ?_
        rintro e we ⟨rfl, ⟨⟨mmw_c, rfl⟩⟩⟩
        refine ⟨_, rfl, ?_⟩
        replace hX := L.BC.drewN hX mmw_c
        replace hZ := L.BC.drewN hZ mmw_c
        replace hB := L.below_drewN hB mmw_c
        clear hHeld
        refine hK.out _ _ hX (fun hHeld => ?_)
        clear hK K
        generalize wb.drewN mmw_c = w_c at hX hZ hB hHeld ⊢
        refine norm_ (a' := ?_) ?_ ?_
        rotate_left
        · show Act.put _ (some 40) _ = _
          simp only [Act.put, List.setIfInBounds_toArray, List.set_cons_zero, List.set_cons_succ, i64_w, i32_w]
          rfl
        refine pure_ (i := 14) (N := (some 52)) (v := ?_) (a' := ?_) #[true, true, true, true, true, false, true, true, true, true, true, true, false, false, true, false, false, false, false, false] rfl rfl (by kernel_rfl) (fun _ _ _ h => h) (Or.inl ⟨by rfl, ?_⟩) ?_ ?_
        rotate_left
        · intro w'
          go_simp
          with_reducible rfl
        rotate_left
        · simp only [Act.put, List.setIfInBounds_toArray, List.set_cons_zero, List.set_cons_succ, i64_w, i32_w]
          rfl
        refine one_ (i := 5) (N := (some 43)) #[true, true, true, true, true, true, true, true, true, true, true, true, false, false, true, false, false, false, false, false] rfl rfl (by kernel_rfl) (by decide) (fun K hK => ?_)
        refine goes_ Tryz.func89 (by kernel_rfl) rfl #[.int .i64 h2, .int .i64 255] (by rfl) rfl rfl (by (try simp only [List.map_toArray, List.map_cons, List.map_nil]); first | done | rfl) ?_
        refine (PG.coder_Up.calls h2 255 _ _ HH.out).mono ?_
        rintro e we ⟨rfl, ⟨⟨mmw_d, rfl⟩⟩⟩
        refine ⟨_, rfl, ?_⟩
        replace hX := L.BC.drewN hX mmw_d
        replace hZ := L.BC.drewN hZ mmw_d
        replace hB := L.below_drewN hB mmw_d
        clear hHeld
        refine hK.out _ _ hX (fun hHeld => ?_)
        clear hK K
        generalize w_c.drewN mmw_d = w_d at hX hZ hB hHeld ⊢
        refine norm_ (a' := ?_) ?_ ?_
        rotate_left
        · show Act.put _ (some 43) _ = _
          simp only [Act.put, List.setIfInBounds_toArray, List.set_cons_zero, List.set_cons_succ, i64_w, i32_w]
          rfl
        refine one_ (i := 12) (N := (some 50)) #[true, true, true, true, true, true, true, true, true, true, true, true, true, false, true, false, false, false, false, false] rfl rfl (by kernel_rfl) (by decide) (fun K hK => ?_)
        refine goes_ Tryz.func90 (by kernel_rfl) rfl #[.string s, .int .i64 at2] (by rfl) rfl rfl (by (try simp only [List.map_toArray, List.map_cons, List.map_nil]); first | done | rfl) ?_
        refine (PG.decoder_at.calls s at2 _ _ HA.out).mono ?_
        rintro e we ⟨rfl, ⟨⟨mmw_e, rfl⟩⟩⟩
        refine ⟨_, rfl, ?_⟩
        replace hX := L.BC.drewN hX mmw_e
        replace hZ := L.BC.drewN hZ mmw_e
        replace hB := L.below_drewN hB mmw_e
        clear hHeld
        refine hK.out _ _ hX (fun hHeld => ?_)
        clear hK K
        generalize w_d.drewN mmw_e = w_e at hX hZ hB hHeld ⊢
        refine norm_ (a' := ?_) ?_ ?_
        rotate_left
        · show Act.put _ (some 50) _ = _
          simp only [Act.put, List.setIfInBounds_toArray, List.set_cons_zero, List.set_cons_succ, i64_w, i32_w]
          rfl
        refine one_ (i := 13) (N := (some 51)) #[true, true, true, true, true, true, true, true, true, true, true, true, true, true, true, false, false, false, false, false] rfl rfl (by kernel_rfl) (by decide) (fun K hK => ?_)
        refine goes_ Tryz.func89 (by kernel_rfl) rfl #[.int .i64 x2, .int .i64 bb] (by rfl) rfl rfl (by (try simp only [List.map_toArray, List.map_cons, List.map_nil]); first | done | rfl) ?_
        refine (PG.coder_Up.calls x2 bb _ _ HX.out).mono ?_
        rintro e we ⟨rfl, ⟨⟨mmw_f, rfl⟩⟩⟩
        refine ⟨_, rfl, ?_⟩
        replace hX := L.BC.drewN hX mmw_f
        replace hZ := L.BC.drewN hZ mmw_f
        replace hB := L.below_drewN hB mmw_f
        clear hHeld
        refine hK.out _ _ hX (fun hHeld => ?_)
        clear hK K
        generalize w_e.drewN mmw_f = w_f at hX hZ hB hHeld ⊢
        refine norm_ (a' := ?_) ?_ ?_
        rotate_left
        · show Act.put _ (some 51) _ = _
          simp only [Act.put, List.setIfInBounds_toArray, List.set_cons_zero, List.set_cons_succ, i64_w, i32_w]
          rfl
        refine last_ (i := 15) (N := none) #[true, true, true, true, true, true, true, true, true, true, true, true, true, true, true, true, false, false, false, false] rfl rfl (by kernel_rfl) (by decide) (fun K hK => ?_)
        have y := L.BC.at_ hX (o := 0) rfl
        have fz := L.BC.frozen hX 0
        refine skip_ (w1 := w_f.setCell ⟨gx, 0, none⟩ (.int .i64 ul)) (by rfl) rfl ?_ ?_
        · go_simp
        replace hX := L.BC.set hX 0 (.int .i64 ul)
        replace hZ := L.BC.far hZ (p := ⟨gx, 0, none⟩) (Ne.symm hne) (.int .i64 ul)
        replace hB := hB.setCell (p := ⟨gx, 0, none⟩) hgl (.int .i64 ul)
        clear y fz hHeld
        refine hK.out _ _ ?_
        clear hK K
        generalize w_f.setCell ⟨gx, 0, none⟩ (.int .i64 ul) = w_g at hX hZ hB ⊢
        refine pure_ (i := 16) (N := (some 53)) (v := ?_) (a' := ?_) #[true, true, true, true, true, true, true, true, true, true, true, true, true, true, true, true, true, false, false, false] rfl rfl (by kernel_rfl) (fun _ _ _ h => h) (Or.inl ⟨by rfl, ?_⟩) ?_ ?_
        rotate_left
        · intro w'
          go_simp
          with_reducible rfl
        rotate_left
        · simp only [Act.put, List.setIfInBounds_toArray, List.set_cons_zero, List.set_cons_succ, i64_w, i32_w]
          rfl
        refine last_ (i := 17) (N := none) #[true, true, true, true, true, true, true, true, true, true, true, true, true, true, true, true, true, true, false, false] rfl rfl (by kernel_rfl) (by decide) (fun K hK => ?_)
        have y := L.BC.at_ hX (o := 1) rfl
        have fz := L.BC.frozen hX 1
        refine skip_ (w1 := w_g.setCell ⟨gx, 1, none⟩ (.int .i64 uh)) (by rfl) rfl ?_ ?_
        · go_simp
        replace hX := L.BC.set hX 1 (.int .i64 uh)
        replace hZ := L.BC.far hZ (p := ⟨gx, 1, none⟩) (Ne.symm hne) (.int .i64 uh)
        replace hB := hB.setCell (p := ⟨gx, 1, none⟩) hgl (.int .i64 uh)
        clear y fz
        refine hK.out _ _ ?_
        clear hK K
        generalize w_g.setCell ⟨gx, 1, none⟩ (.int .i64 uh) = w_h at hX hZ hB ⊢
        refine pure_ (i := 18) (N := (some 54)) (v := ?_) (a' := ?_) #[true, true, true, true, true, true, true, true, true, true, true, true, true, true, true, true, true, true, true, false] rfl rfl (by kernel_rfl) (fun _ _ _ h => h) (Or.inl ⟨by rfl, ?_⟩) ?_ ?_
        rotate_left
        · intro w'
          go_simp
          with_reducible rfl
        rotate_left
        · simp only [Act.put, List.setIfInBounds_toArray, List.set_cons_zero, List.set_cons_succ, i64_w, i32_w]
          rfl
        refine last_ (i := 19) (N := none) #[true, true, true, true, true, true, true, true, true, true, true, true, true, true, true, true, true, true, true, true] rfl rfl (by kernel_rfl) (by decide) (fun K hK => ?_)
        have y := L.BC.at_ hX (o := 2) rfl
        have fz := L.BC.frozen hX 2
        refine skip_ (w1 := w_h.setCell ⟨gx, 2, none⟩ (.int .i64 ux)) (by rfl) rfl ?_ ?_
        · go_simp
        replace hX := L.BC.set hX 2 (.int .i64 ux)
        replace hZ := L.BC.far hZ (p := ⟨gx, 2, none⟩) (Ne.symm hne) (.int .i64 ux)
        replace hB := hB.setCell (p := ⟨gx, 2, none⟩) hgl (.int .i64 ux)
        clear y fz
        refine hK.out _ _ ?_
        clear hK K
        generalize w_h.setCell ⟨gx, 2, none⟩ (.int .i64 ux) = w_k at hX hZ hB ⊢
        refine done_ (by kernel_rfl) ?_
        have y4 := L.BC.at_ hX (o := 4) rfl
        have f4 := L.BC.frozen hX 4
        cases n with
        | zero => exact absurd c.out (by have := hE.2.2; simp only [norm] at this; omega)
        | succ n =>
          have wm2 : IntKind.i64.wrap (at2 + 1) = at2 + 1 := IntWalk.i64_in _ (by have := hat2.out; omega)
          have e1 := e1.out
          have e2 := e2.out
          have e3 := e3.out
          rw [norm, if_pos c.out] at hE e1 e2 e3
          rw [hul, huh] at hE e1 e2 e3
          simp only [List.length_cons] at e3
          replace e1 := Lib.hid e1
          replace e2 := Lib.hid e2
          go_wp2_with (fail)
          replace hX := L.BC.set hX 4 (.int .i64 (at2 + 1))
          replace hZ := L.BC.far hZ (p := ⟨gx, 4, none⟩) (Ne.symm hne) (.int .i64 (at2 + 1))
          replace hB := hB.setCell (p := ⟨gx, 4, none⟩) hgl (.int .i64 (at2 + 1))
          clear y4 f4
          generalize w_k.setCell ⟨gx, 4, none⟩ (.int .i64 (at2 + 1)) = k2 at hX hZ hB ⊢
          obtain ⟨kk, rfl⟩ : ∃ k, gk = k + 1 := ⟨n + 1, by omega⟩
          go_roundg kk
          case measure => omega
          case rel => exact ⟨n, ul, uh, i2 + 1, ux, at2 + 1, by omega, iul.1, ilh, iuh.2, hE, e1.out, e2.out, by omega, by omega, hwu.out, by have := hat2.out; omega, hX, hZ, hB⟩
      · have hnorm : norm n l2 h2 = (l2, h2, []) := by
          cases n with
          | zero => rfl
          | succ n => rw [norm, if_neg c]
        have e1 := e1.out
        have e2 := e2.out
        have e3 := e3.out
        rw [hnorm] at e1 e2 e3
        simp only [List.length_nil, Nat.add_zero] at e1 e2 e3
        refine (PG.coder_Gone.calls l2 h2 false _ (by rw [PG.gone_f, decide_eq_false c])).mono ?_
        rintro e wg ⟨rfl, ⟨⟨mg, rfl⟩⟩⟩
        replace hX := L.BC.drewN hX mg
        replace hZ := L.BC.drewN hZ mg
        replace hB := L.below_drewN hB mg
        clear y0 y1
        generalize wr.drewN mg = wa at hX hZ hB ⊢
        have y0 := L.BC.at_ hX (o := 0) rfl
        have y1 := L.BC.at_ hX (o := 1) rfl
        have y2 := L.BC.at_ hX (o := 2) rfl
        have y3 := L.BC.at_ hX (o := 3) rfl
        have y4 := L.BC.at_ hX (o := 4) rfl
        have z0 := L.BC.at_ hZ (o := 0) rfl
        have z1 := L.BC.at_ hZ (o := 1) rfl
        have z2 := L.BC.at_ hZ (o := 2) rfl
        have z3 := L.BC.at_ hZ (o := 3) rfl
        have z4 := L.BC.at_ hZ (o := 4) rfl
        have k0 := L.BC.frozen hZ 0
        have k1 := L.BC.frozen hZ 1
        have k2 := L.BC.frozen hZ 2
        have k3 := L.BC.frozen hZ 3
        have k4 := L.BC.frozen hZ 4
        replace c := Lib.hid c
        have hres := hres.out
        rw [← e1, ← e2, ← e3, hx2.out] at hres
        by_cases cb : i2 ≤ 65540
        · rw [if_pos cb, hat2.out] at hres
          have d5 : decide (65544 < at2) = false := decide_eq_false (by have := hat2.out; omega)
          replace hres := Lib.hid hres
          replace e1 := Lib.hid e1
          replace e2 := Lib.hid e2
          replace e3 := Lib.hid e3
          go_wp2_with (fail)
          have hZ' := L.BC.set (L.BC.set (L.BC.set (L.BC.set (L.BC.set hZ 0 (.int .i64 l2)) 1 (.int .i64 h2)) 2 (.int .i64 x2)) 3 (.string s)) 4 (.int .i64 at2)
          have hB' := ((((hB.setCell (p := ⟨gz, 0, none⟩) hgz (.int .i64 l2)).setCell (p := ⟨gz, 1, none⟩) hgz (.int .i64 h2)).setCell (p := ⟨gz, 2, none⟩) hgz (.int .i64 x2)).setCell (p := ⟨gz, 3, none⟩) hgz (.string s)).setCell (p := ⟨gz, 4, none⟩) hgz (.int .i64 at2)
          refine bodyPost_ret (bc_resulttt (P := Tryz.prog) Tryz.results132 _ _ gz [.int .i64 l2, .int .i64 h2, .int .i64 x2, .string s, .int .i64 at2] _ rfl hZ'.range Tryz.underlying87 rfl info56) rfl ⟨?_, hB'⟩
          rw [← hres.out]
          rfl
        · rw [if_neg cb] at hres
          have d5 : decide (65544 < at2) = true := decide_eq_true (by have := hat2.out; omega)
          replace hres := Lib.hid hres
          replace e1 := Lib.hid e1
          replace e2 := Lib.hid e2
          replace e3 := Lib.hid e3
          go_wp2_with (fail)
          have hZ' := L.BC.set (L.BC.set (L.BC.set (L.BC.set (L.BC.set hZ 0 (.int .i64 0)) 1 (.int .i64 0)) 2 (.int .i64 0)) 3 (.string ⟨#[]⟩)) 4 (.int .i64 0)
          have hB' := ((((hB.setCell (p := ⟨gz, 0, none⟩) hgz (.int .i64 0)).setCell (p := ⟨gz, 1, none⟩) hgz (.int .i64 0)).setCell (p := ⟨gz, 2, none⟩) hgz (.int .i64 0)).setCell (p := ⟨gz, 3, none⟩) hgz (.string ⟨#[]⟩)).setCell (p := ⟨gz, 4, none⟩) hgz (.int .i64 0)
          refine bodyPost_ret (bc_resulttt (P := Tryz.prog) Tryz.results132 _ _ gz [.int .i64 0, .int .i64 0, .int .i64 0, .string ⟨#[]⟩, .int .i64 0] _ rfl hZ'.range Tryz.underlying87 rfl info56) rfl ⟨?_, hB'⟩
          rw [← hres.out]
          rfl
end Go.Proofs.YtiokfaiioealdaaGreatDoor
namespace Go.Proofs.YtiokfaiioealdaaGreatDoor
open Go.RowKit Go.Proofs.YtiokfaiioealdaaGreatDoorW.PrintWords Go.Proofs.YtiokfaiioealdaaGreatDoorW.PrintLast Go.Proofs.YtiokfaiioealdaaGreatDoorW.PrintMore Go.Proofs.YtiokfaiioealdaaGreatDoor.L
set_option linter.unusedVariables false
set_option linter.unusedSimpArgs false
theorem stc_set5 {M : List Int} {before : Int} {bv a b c d k a' b' c' d' k' : Value} {w : World} {g ty : Nat} (hM : M.length = 195) (h : L.BC w g ty (stc M before bv [a, b, c, d, k])) :
    L.BC (((((w.setCell ⟨g, 197, none⟩ a').setCell ⟨g, 198, none⟩ b').setCell ⟨g, 199, none⟩ c').setCell ⟨g, 200, none⟩ d').setCell ⟨g, 201, none⟩ k') g ty (stc M before bv [a', b', c', d', k']) := by
  have h0 := L.BC.set h 197 a'
  rw [show (stc M before bv [a, b, c, d, k]).set 197 a' = stc M before bv [a', b, c, d, k] from stc_set_tail hM 0] at h0
  have h1 := L.BC.set h0 198 b'
  rw [show (stc M before bv [a', b, c, d, k]).set 198 b' = stc M before bv [a', b', c, d, k] from stc_set_tail hM 1] at h1
  have h2 := L.BC.set h1 199 c'
  rw [show (stc M before bv [a', b', c, d, k]).set 199 c' = stc M before bv [a', b', c', d, k] from stc_set_tail hM 2] at h2
  have h3 := L.BC.set h2 200 d'
  rw [show (stc M before bv [a', b', c', d, k]).set 200 d' = stc M before bv [a', b', c', d', k] from stc_set_tail hM 3] at h3
  have h4 := L.BC.set h3 201 k'
  rw [show (stc M before bv [a', b', c', d', k]).set 201 k' = stc M before bv [a', b', c', d', k'] from stc_set_tail hM 4] at h4
  exact h4
set_option maxHeartbeats 8000000 in
set_option maxRecDepth 100000 in
theorem rbit_any (w0 : World) (g : Nat) (S : St) (s : ByteArray) (D : Dec) (v : Value) (w : World) (ht : Tab w) (hS : SIn S) (hO : SOk w0 w g 92 S (decC s D) v) (hg : g < w0.heap.size) (hgt : 3 ≠ g) (hl : S.bits.length ≤ 62) (hs : s.size ≤ 65536) (hd : PG.DOk s.data.toList D) (hi : D.i ≤ 65540) :
    Calls Tryz.prog 93 #[.pointer (some ⟨g, 0, none⟩)] w fun e w' => e = .returned (.bool (decide ((decB s.data.toList D (chance mdot S)).i ≤ 65540))) ∧ L.But w0 w' g ∧ ((decB s.data.toList D (chance mdot S)).i ≤ 65540 → ∃ v' : Value, SOk w0 w' g 92 (lrn lR S (decV s.data.toList D (chance mdot S))) (decC s (decB s.data.toList D (chance mdot S))) v') := by
  obtain ⟨M, before, bits⟩ := S
  obtain ⟨hM, hm, hbf, h01⟩ := hS
  obtain ⟨hI, hR, hN⟩ := hO
  simp only [] at hM hm hbf h01 hI hR hl
  unfold lrn chance
  simp only []
  have hpr := mdot_in M (cx0 bits) (cx1 before bits) (cx2 bits)
  obtain ⟨A, cap, ev⟩ := Kd.R_slice hR
  subst ev
  have hch := chance_any g 92 M before A cap bits (decC s D) w ht hM hI (Kd.R_reads' hR).2.2 (Kd.R_reads' hR).2.1 hm hbf (by omega) h01
  have hlr := fun (w1 : World) (T : List Value) b ht1 hI1 hR1 hN1 => learn_any w0 g 92 M before (.slice A bits.length cap) bits T (cx0 bits) (cx1 before bits) (cx2 bits) b w1 ht1 hM hI1 (by decide) hR1 hN1 hg hgt (by omega)
  unfold v3 at hch hlr
  generalize cx0 bits = c0 at *
  generalize cx1 before bits = c1 at *
  generalize cx2 bits = c2 at *
  generalize mdot M c0 c1 c2 = p at *
  have hcb := fun w1 => dec_bit s D p w1 hs hd hi hpr.1 hpr.2
  obtain ⟨V2, l2, h2, x2, s2, a2, e2, hres, hdec⟩ : ∃ (V2 l2 h2 x2 : Int) (s2 : ByteArray) (a2 e2 : Int), decR s D p = .tuple #[.agg #[.int .i64 l2, .int .i64 h2, .int .i64 x2, .string s2, .int .i64 a2], .int .i64 V2, .int .i64 e2] ∧ ((e2 = 0 ∧ (decB s.data.toList D p).i ≤ 65540 ∧ [.int .i64 l2, .int .i64 h2, .int .i64 x2, .string s2, .int .i64 a2] = decC s (decB s.data.toList D p) ∧ V2 = decV s.data.toList D p) ∨ (e2 = 500 ∧ ¬ (decB s.data.toList D p).i ≤ 65540)) := by
    unfold decR
    by_cases c : (decB s.data.toList D p).i ≤ 65540
    · rw [if_pos c]; exact ⟨_, _, _, _, _, _, _, rfl, .inl ⟨rfl, c, rfl, rfl⟩⟩
    · rw [if_neg c]; exact ⟨_, _, _, _, _, _, _, rfl, .inr ⟨rfl, c⟩⟩
  rw [hres] at hcb
  clear hres h01 hm hbf hpr
  unfold decC at hI
  generalize hl0 : D.l = l at hI
  generalize hh0 : D.h = h at hI
  generalize hx0 : win s.data.toList D.i = x at hI
  generalize ha0 : (D.i : Int) + 4 = at0 at hI
  have hcb : ∀ w1 : World, Calls Tryz.prog 132 #[.agg #[.int .i64 l, .int .i64 h, .int .i64 x, .string s, .int .i64 at0], .int .i64 p] w1 fun e w' => e = .returned (.tuple #[.agg #[.int .i64 l2, .int .i64 h2, .int .i64 x2, .string s2, .int .i64 a2], .int .i64 V2, .int .i64 e2]) ∧ Below w1.heap.size w1 w' := by
    intro w1
    have := hcb w1
    unfold decC at this
    rw [hl0, hh0, hx0, ha0] at this
    exact this
  replace hdec := Lib.hid hdec
  clear hl0 hh0 hx0 ha0 hs hd hi
  go_enter Tryz.func93, Tryz.ntmps93
  go_wp2_with (fail)
  refine hch.mono ?_
  rintro e w1 ⟨rfl, hb1⟩
  replace hI := L.BC.below hI hb1
  replace hR := Kd.R_below hR hb1
  replace hN := L.But.next hN hb1
  replace ht := ht.below hb1
  clear hb1 hch
  have hNw := L.BC.new w1 [.int .i64 0, .int .i64 0, .int .i64 0] 61
  have n0 := L.BC.at_ hNw (o := 0) rfl; have n1 := L.BC.at_ hNw (o := 1) rfl; have n2 := L.BC.at_ hNw (o := 2) rfl
  have m0 := L.BC.frozen hNw 0; have m1 := L.BC.frozen hNw 1; have m2 := L.BC.frozen hNw 2
  replace hI := L.BC.alloc hI (.cells #[.int .i64 c0, .int .i64 c1, .int .i64 c2] 61)
  have x0 : (w1.alloc (.cells #[.int .i64 c0, .int .i64 c1, .int .i64 c2] 61)).cell? ⟨g, 197, none⟩ = some (.int .i64 l) := L.BC.at_ hI (stc_tail hM 0)
  have x1 : (w1.alloc (.cells #[.int .i64 c0, .int .i64 c1, .int .i64 c2] 61)).cell? ⟨g, 198, none⟩ = some (.int .i64 h) := L.BC.at_ hI (stc_tail hM 1)
  have x2' : (w1.alloc (.cells #[.int .i64 c0, .int .i64 c1, .int .i64 c2] 61)).cell? ⟨g, 199, none⟩ = some (.int .i64 x) := L.BC.at_ hI (stc_tail hM 2)
  have x3 : (w1.alloc (.cells #[.int .i64 c0, .int .i64 c1, .int .i64 c2] 61)).cell? ⟨g, 200, none⟩ = some (.string s) := L.BC.at_ hI (stc_tail hM 3)
  have x4 : (w1.alloc (.cells #[.int .i64 c0, .int .i64 c1, .int .i64 c2] 61)).cell? ⟨g, 201, none⟩ = some (.int .i64 at0) := L.BC.at_ hI (stc_tail hM 4)
  go_wp2_with (fail)
  have hX := L.BC.new w1 [.int .i64 c0, .int .i64 c1, .int .i64 c2] 61
  have hgg : w1.heap.size ≠ g := Nat.ne_of_gt (Nat.lt_of_lt_of_le hg hN.size)
  replace hR := Kd.R_alloc hR (.cells #[.int .i64 c0, .int .i64 c1, .int .i64 c2] 61)
  replace hN := L.But.alloc hN (.cells #[.int .i64 c0, .int .i64 c1, .int .i64 c2] 61)
  replace ht := ht.alloc (.cells #[.int .i64 c0, .int .i64 c1, .int .i64 c2] 61)
  clear n0 n1 n2 m0 m1 m2 hNw x0 x1 x2' x3 x4
  generalize w1.alloc (.cells #[.int .i64 c0, .int .i64 c1, .int .i64 c2] 61) = w2 at hI hX hR hN ht ⊢
  generalize w1.heap.size = gt at *
  refine (hcb _).mono ?_
  rintro e w3 ⟨rfl, hb3⟩
  replace hI := L.BC.below hI hb3
  replace hX := L.BC.below hX hb3
  replace hR := Kd.R_below hR hb3
  replace hN := L.But.next hN hb3
  replace ht := ht.below hb3
  clear hb3 hcb
  have hNw := L.BC.new w3 [.int .i64 0, .int .i64 0, .int .i64 0, .string (⟨#[]⟩ : ByteArray), .int .i64 0] 87
  have n0 := L.BC.at_ hNw (o := 0) rfl; have n1 := L.BC.at_ hNw (o := 1) rfl; have n2 := L.BC.at_ hNw (o := 2) rfl; have n3 := L.BC.at_ hNw (o := 3) rfl; have n4 := L.BC.at_ hNw (o := 4) rfl
  have m0 := L.BC.frozen hNw 0; have m1 := L.BC.frozen hNw 1; have m2 := L.BC.frozen hNw 2; have m3 := L.BC.frozen hNw 3; have m4 := L.BC.frozen hNw 4
  have hg3 : w3.heap.size ≠ g := Nat.ne_of_gt (Nat.lt_of_lt_of_le hg hN.size)
  have hgt3 : w3.heap.size ≠ gt := Nat.ne_of_gt hX.lt
  have hg3f : (w3.heap.size = g) = False := eq_false hg3
  have hg3g : (g = w3.heap.size) = False := eq_false (Ne.symm hg3)
  let CC : Obj := .cells #[.int .i64 l2, .int .i64 h2, .int .i64 x2, .string s2, .int .i64 a2] 87
  replace hI := L.BC.alloc hI CC
  replace hX := L.BC.alloc hX CC
  replace hR := Kd.R_alloc hR CC
  replace hN := L.But.alloc hN CC
  replace ht := ht.alloc CC
  unfold CC at hI hX hR hN ht
  clear CC
  have y0 : (w3.alloc (.cells #[.int .i64 l2, .int .i64 h2, .int .i64 x2, .string s2, .int .i64 a2] 87)).cell? ⟨g, 197, none⟩ = some (.int .i64 l) := L.BC.at_ hI (stc_tail hM 0)
  have y1 : (w3.alloc (.cells #[.int .i64 l2, .int .i64 h2, .int .i64 x2, .string s2, .int .i64 a2] 87)).cell? ⟨g, 198, none⟩ = some (.int .i64 h) := L.BC.at_ hI (stc_tail hM 1)
  have y2 : (w3.alloc (.cells #[.int .i64 l2, .int .i64 h2, .int .i64 x2, .string s2, .int .i64 a2] 87)).cell? ⟨g, 199, none⟩ = some (.int .i64 x) := L.BC.at_ hI (stc_tail hM 2)
  have y3 : (w3.alloc (.cells #[.int .i64 l2, .int .i64 h2, .int .i64 x2, .string s2, .int .i64 a2] 87)).cell? ⟨g, 200, none⟩ = some (.string s) := L.BC.at_ hI (stc_tail hM 3)
  have y4 : (w3.alloc (.cells #[.int .i64 l2, .int .i64 h2, .int .i64 x2, .string s2, .int .i64 a2] 87)).cell? ⟨g, 201, none⟩ = some (.int .i64 at0) := L.BC.at_ hI (stc_tail hM 4)
  have z0 := L.BC.frozen hI 197; have z1 := L.BC.frozen hI 198; have z2 := L.BC.frozen hI 199; have z3 := L.BC.frozen hI 200; have z4 := L.BC.frozen hI 201
  go_wp2_with (fail)
  clear y0 y1 y2 y3 y4 z0 z1 z2 z3 z4 n0 n1 n2 n3 n4 m0 m1 m2 m3 m4 hNw hg3f hg3g
  generalize w3.alloc (.cells #[.int .i64 l2, .int .i64 h2, .int .i64 x2, .string s2, .int .i64 a2] 87) = w4 at hI hX hR hN ht ⊢
  have hI5 := stc_set5 (a' := .int .i64 l2) (b' := .int .i64 h2) (c' := .int .i64 x2) (d' := .string s2) (k' := .int .i64 a2) hM hI
  have hX5 := L.BC.far (L.BC.far (L.BC.far (L.BC.far (L.BC.far hX (p := ⟨g, 197, none⟩) (Ne.symm hgg) (.int .i64 l2)) (p := ⟨g, 198, none⟩) (Ne.symm hgg) (.int .i64 h2)) (p := ⟨g, 199, none⟩) (Ne.symm hgg) (.int .i64 x2)) (p := ⟨g, 200, none⟩) (Ne.symm hgg) (.string s2)) (p := ⟨g, 201, none⟩) (Ne.symm hgg) (.int .i64 a2)
  have hR5 : Kd.R (Kd.int .i64) 3 (((((w4.setCell ⟨g, 197, none⟩ (.int .i64 l2)).setCell ⟨g, 198, none⟩ (.int .i64 h2)).setCell ⟨g, 199, none⟩ (.int .i64 x2)).setCell ⟨g, 200, none⟩ (.string s2)).setCell ⟨g, 201, none⟩ (.int .i64 a2)) w0.heap.size (fun _ => True) (.slice A bits.length cap) bits :=
    R_setB (R_setB (R_setB (R_setB (R_setB hR hI (ne_ty (by decide)) 197 _) (L.BC.set hI 197 _) (ne_ty (by decide)) 198 _) (L.BC.set (L.BC.set hI 197 _) 198 _) (ne_ty (by decide)) 199 _) (L.BC.set (L.BC.set (L.BC.set hI 197 _) 198 _) 199 _) (ne_ty (by decide)) 200 _) (L.BC.set (L.BC.set (L.BC.set (L.BC.set hI 197 _) 198 _) 199 _) 200 _) (ne_ty (by decide)) 201 _
  have hN5 := L.But.set (L.But.set (L.But.set (L.But.set (L.But.set hN 197 (.int .i64 l2)) 198 (.int .i64 h2)) 199 (.int .i64 x2)) 200 (.string s2)) 201 (.int .i64 a2)
  have ht5 : Tab (((((w4.setCell ⟨g, 197, none⟩ (.int .i64 l2)).setCell ⟨g, 198, none⟩ (.int .i64 h2)).setCell ⟨g, 199, none⟩ (.int .i64 x2)).setCell ⟨g, 200, none⟩ (.string s2)).setCell ⟨g, 201, none⟩ (.int .i64 a2)) := Tab.but ht (L.But.set (L.But.set (L.But.set (L.But.set (L.But.set (L.But.refl _ _) 197 _) 198 _) 199 _) 200 _) 201 _) hgt
  clear hI hX hR hN ht
  generalize ((((w4.setCell ⟨g, 197, none⟩ (.int .i64 l2)).setCell ⟨g, 198, none⟩ (.int .i64 h2)).setCell ⟨g, 199, none⟩ (.int .i64 x2)).setCell ⟨g, 200, none⟩ (.string s2)).setCell ⟨g, 201, none⟩ (.int .i64 a2) = w5 at hI5 hX5 hR5 hN5 ht5 ⊢
  replace hI5 := L.BC.drew hI5
  replace hX5 := L.BC.drew hX5
  replace hR5 := Kd.R_drew hR5
  replace hN5 := L.But.drew hN5
  replace ht5 := ht5.below (L.below_drew (Below.refl _ _))
  refine start_ (n := 6) (S := fun w' => L.BC w' gt 61 [.int .i64 c0, .int .i64 c1, .int .i64 c2]) (ds := [5]) #[false, false, false, false, false, false] (by kernel_rfl) rfl rfl hX5 (fun hHeld => ?_)
  generalize w5.drew = w6 at hI5 hX5 hR5 hN5 ht5 hHeld ⊢
  refine pure_ (i := 0) (N := (some 29)) (v := ?_) (a' := ?_) #[true, false, false, false, false, false] rfl rfl (by kernel_rfl) (fun _ _ _ h => h) (Or.inl ⟨by rfl, ?_⟩) ?_ ?_
  rotate_left
  · intro w'
    go_simp
    with_reducible rfl
  rotate_left
  · simp only [Act.put, List.setIfInBounds_toArray, List.set_cons_zero, List.set_cons_succ, i64_w, i32_w]
    rfl
  refine pure_ (i := 1) (N := (some 30)) (v := ?_) (a' := ?_) #[true, true, false, false, false, false] rfl rfl (by kernel_rfl) (fun _ _ _ h => h) (Or.inl ⟨by rfl, ?_⟩) ?_ ?_
  rotate_left
  · intro w'
    go_simp
    with_reducible rfl
  rotate_left
  · simp only [Act.put, List.setIfInBounds_toArray, List.set_cons_zero, List.set_cons_succ, i64_w, i32_w]
    rfl
  refine pure_ (i := 2) (N := (some 31)) (v := ?_) (a' := ?_) #[true, true, true, false, false, false] rfl rfl (by kernel_rfl) (fun _ _ _ h => h) (Or.inl ⟨by rfl, ?_⟩) ?_ ?_
  rotate_left
  · intro w'
    go_simp
    with_reducible rfl
  rotate_left
  · simp only [Act.put, List.setIfInBounds_toArray, List.set_cons_zero, List.set_cons_succ, i64_w, i32_w]
    rfl
  refine take_ (i := 3) (N := (some 32)) (v := .agg #[.int .i64 c0, .int .i64 c1, .int .i64 c2]) (a' := ?_) #[true, true, true, true, false, false] rfl rfl (by kernel_rfl) (fun _ _ _ h => h) (Or.inl ⟨by rfl, fun w' hS => L.loads 61 (.tmp 4) gt [.int .i64 c0, .int .i64 c1, .int .i64 c2] _ (by rfl) (by rfl) Tryz.underlying61 rfl info3 w' (id hS)⟩) hHeld ?_ ?_
  rotate_left
  · simp only [Act.put, List.setIfInBounds_toArray, List.set_cons_zero, List.set_cons_succ, i64_w, i32_w]
    rfl
  refine pure_ (i := 4) (N := (some 33)) (v := ?_) (a' := ?_) #[true, true, true, true, true, false] rfl rfl (by kernel_rfl) (fun _ _ _ h => h) (Or.inl ⟨by rfl, ?_⟩) ?_ ?_
  rotate_left
  · intro w'
    go_simp
    with_reducible rfl
  rotate_left
  · simp only [Act.put, List.setIfInBounds_toArray, List.set_cons_zero, List.set_cons_succ, i64_w, i32_w]
    rfl
  refine last_ (i := 5) (N := (some 34)) #[true, true, true, true, true, true] rfl rfl (by kernel_rfl) (by decide) (fun K hK => ?_)
  refine goes_ Tryz.func123 (by kernel_rfl) rfl #[.pointer (some ⟨g, 0, none⟩), .agg #[.int .i64 c0, .int .i64 c1, .int .i64 c2], .int .i64 V2] (by rfl) rfl rfl (by (try simp only [List.map_toArray, List.map_cons, List.map_nil]); first | done | rfl) ?_
  refine (hlr _ _ _ ht5 hI5 hR5 hN5).mono ?_
  rintro e w7 ⟨rfl, v', hI7, hR7, hN7⟩
  refine ⟨_, rfl, ?_⟩
  refine hK.out _ _ ?_
  clear hK K
  refine norm_ (a' := ?_) ?_ ?_
  rotate_left
  · show Act.put _ (some 34) _ = _
    simp only [Act.put, List.setIfInBounds_toArray, List.set_cons_zero, List.set_cons_succ, i64_w, i32_w]
    rfl
  refine done_ (by kernel_rfl) ?_
  go_wp2
  go_ret
  rcases hdec.out with ⟨q1, q2, q3, q4⟩ | ⟨q1, q2⟩
  · subst q1
    rw [decide_eq_true q2]
    refine ⟨rfl, hN7, fun _ => ⟨v', ?_, ?_, hN7⟩⟩
    · rw [← q3, ← q4]; exact hI7
    · rw [← q4]; exact hR7
  · subst q1
    rw [decide_eq_false q2]
    exact ⟨rfl, hN7, fun h => absurd h q2⟩
end Go.Proofs.YtiokfaiioealdaaGreatDoor
namespace Go.Proofs.YtiokfaiioealdaaGreatDoor
open Go.RowKit Go.Proofs.YtiokfaiioealdaaGreatDoorW.PrintWords Go.Proofs.YtiokfaiioealdaaGreatDoorW.PrintLast Go.Proofs.YtiokfaiioealdaaGreatDoorW.PrintMore Go.Proofs.YtiokfaiioealdaaGreatDoor.L
set_option linter.unusedVariables false
set_option linter.unusedSimpArgs false
theorem gOnes_app (b : Int) : ∀ l : List Int, gOnes (l ++ [b]) = if gOnes l = l.length then (if b = 1 then l.length + 1 else l.length) else gOnes l := by
  intro l
  induction l with
  | nil => simp [gOnes]
  | cons a r ih =>
    simp only [List.cons_append, gOnes, List.length_cons]
    by_cases ha : a = 1
    · simp only [ha, if_true, ih]
      by_cases h1 : gOnes r = r.length
      · simp only [h1, if_true]; split <;> rfl
      · rw [if_neg h1, if_neg (by omega)]
    · simp [ha]
theorem isZ_lt {l : List Int} (h01 : ∀ b ∈ l, b = 0 ∨ b = 1) : isZ l = decide (gOnes l < l.length) := by
  unfold isZ
  induction l with
  | nil => simp [gOnes]
  | cons a r ih =>
    have hr := ih fun b hb => h01 b (List.mem_cons_of_mem _ hb)
    simp only [gOnes, List.length_cons]
    rcases h01 a (List.mem_cons_self ..) with rfl | rfl
    · simp
    · simpa using hr
def GJ (l : List Int) : Prop := gOnes l ≤ 26 ∧ (gOnes l < l.length → gOnes l ≤ 25 ∧ l.length ≤ 2 * gOnes l + 1)
theorem GJ.len {l : List Int} (h : GJ l) : l.length ≤ 51 := by
  have := gOnes_le l
  obtain ⟨a, b⟩ := h
  by_cases c : gOnes l < l.length
  · have := b c; omega
  · omega
theorem GJ.step {l : List Int} {b : Int} (h : GJ l) (h01 : ∀ b ∈ l, b = 0 ∨ b = 1) (hw : whole l = false) (hc : ¬ (isZ l = false ∧ 25 < gOnes l)) : GJ (l ++ [b]) := by
  have hle := gOnes_le l
  unfold whole at hw
  rw [isZ_lt h01] at hw hc
  obtain ⟨h1, h2⟩ := h
  unfold GJ
  rw [gOnes_app, List.length_append, List.length_singleton]
  by_cases c : gOnes l = l.length
  · rw [if_pos c]
    have h25 : gOnes l ≤ 25 := by
      by_cases hg : 25 < gOnes l
      · exact absurd ⟨decide_eq_false (by omega), hg⟩ hc
      · omega
    split <;> omega
  · rw [if_neg c]
    have hlt : gOnes l < l.length := by omega
    rw [decide_eq_true hlt, Bool.true_and] at hw
    have := of_decide_eq_false hw
    have := h2 hlt
    omega
theorem whole_f (l : List Int) (hl : l.length ≤ 63) : PG.gamma_Whole.f (l.length + 1) l = some (whole l) := by
  unfold PG.gamma_Whole.f
  rw [PG.ones_f l (by omega) (l.length + 1) (by omega), Option.bind_some]
  unfold whole isZ
  have hle := gOnes_le l
  by_cases c : l[gOnes l]? = some 0
  · rw [decide_eq_true c]
    simp only [if_true, Bool.true_and]
    rw [IntWalk.wrap64_in (2 * (gOnes l : Int)) (by omega), IntWalk.wrap64_in _ (by omega)]
    refine congrArg some ?_
    by_cases h : l.length = 2 * gOnes l + 1
    · rw [decide_eq_true h]; simp only [beq_iff_eq]; omega
    · rw [decide_eq_false h]; simp only [beq_eq_false_iff_ne]; omega
  · rw [decide_eq_false c]; simp
def numPost (w0 w' : World) (g : Nat) (s : ByteArray) (e : Ending) : Option (Int × St × Dec) → Prop
  | some (x, S, D) => e = .returned (.tuple #[.int .i64 x, .bool true]) ∧ L.BC w' g 92 (stc S.M S.before (.slice none 0 0) (decC s D)) ∧ SIn S ∧ S.bits = [] ∧ PG.DOk s.data.toList D ∧ D.i ≤ 65540 ∧ L.But w0 w' g
  | none => (∃ x, e = .returned (.tuple #[.int .i64 x, .bool false])) ∧ L.But w0 w' g
theorem lrn_bits (S : St) (b : Int) : (lrn lR S b).bits = S.bits ++ [b] := rfl
theorem decV_01 (s : List UInt8) (D : Dec) (p : Int) : decV s D p = 0 ∨ decV s D p = 1 := by unfold decV; split <;> simp
set_option maxHeartbeats 8000000 in
set_option maxRecDepth 100000 in
theorem rnum_any (w : World) (g : Nat) (M : List Int) (before : Int) (s : ByteArray) (D : Dec) (ht : Tab w) (hS : SIn ⟨M, before, []⟩) (hI : L.BC w g 92 (stc M before (.slice none 0 0) (decC s D))) (hgt : 3 ≠ g) (hs : s.size ≤ 65536) (hd : PG.DOk s.data.toList D) (hi : D.i ≤ 65540) :
    Calls Tryz.prog 49 #[.pointer (some ⟨g, 0, none⟩)] w fun e w' => numPost w w' g s e (takeNum mdot lR s.data.toList 60 (⟨M, before, []⟩, D)) := by
  obtain ⟨T0, hT0⟩ : ∃ T0, takeNum mdot lR s.data.toList 60 (⟨M, before, []⟩, D) = T0 := ⟨_, rfl⟩
  rw [hT0]
  replace hT0 := Lib.hid hT0
  have hg := hI.lt
  have hO : SOk w w g 92 ⟨M, before, []⟩ (decC s D) (.slice none 0 0) := ⟨hI, Kd.R_nil _ _ _ _ _, L.But.refl _ _⟩
  have ht0 := Lib.hid ht
  clear ht hI
  go_enter Tryz.func49, Tryz.ntmps49
  go_wp2_with (fail)
  go_loopg [] 60 (fun kq W => ∃ (S2 : St) (D2 : Dec) (v : Value), takeNum mdot lR s.data.toList kq (S2, D2) = T0 ∧ S2.bits.length + kq = 60 ∧ GJ S2.bits ∧ SIn S2 ∧ PG.DOk s.data.toList D2 ∧ D2.i ≤ 65540 ∧ SOk w W g 92 S2 (decC s D2) v)
  case atStart => exact ⟨⟨M, before, []⟩, D, _, hT0.out, rfl, ⟨by simp [gOnes], by simp⟩, hS, hd, hi, hO⟩
  case round =>
    clear hO hS hd hi hT0
    obtain ⟨S2, D2, v, hT, hlen, hJ, hS, hd, hi, hO⟩ := hrel
    have htW := Tab.but ht0.out hO.hN hgt
    have hl51 := hJ.len
    obtain ⟨n, rfl⟩ : ∃ n, gk = n + 1 := ⟨gk - 1, by omega⟩
    rw [takeNum] at hT
    simp only [] at hT
    obtain ⟨A, cap, ev⟩ := Kd.R_slice hO.hR
    subst ev
    have hwf := whole_f S2.bits (by omega)
    have y0 : wr.cell? ⟨g, 196, none⟩ = some (.slice A S2.bits.length cap) := L.BC.at_ hO.hI (stc_bits hS.hM)
    cases hwc : whole S2.bits with
    | true =>
      rw [hwc] at hwf hT
      rw [if_pos rfl] at hT
      have HW := Lib.hid hwf
      have hlen := Lib.hid hlen
      replace hT := Lib.hid hT
      clear hwf
      go_wp2_with (fail)
      refine (PG.gamma_Whole.calls _ A cap S2.bits true _ (Kd.R_reads' hO.hR).2.2 (Kd.R_reads' hO.hR).2.1 HW.out).mono ?_
      rintro e w3 ⟨rfl, ⟨⟨m3, rfl⟩⟩⟩
      have hI := L.BC.drewN hO.hI m3
      have hR := Kd.R_drewN hO.hR m3
      have hN := L.But.drewN hO.hN m3
      clear y0 hO htW
      generalize wr.drewN m3 = w4 at hI hR hN ⊢
      have y0 : w4.cell? ⟨g, 196, none⟩ = some (.slice A S2.bits.length cap) := L.BC.at_ hI (stc_bits hS.hM)
      obtain ⟨r1, r2, hnum⟩ : ∃ r1 r2, PG.gamma_Number.f S2.bits = some (r1, r2) := ⟨_, _, rfl⟩
      have HN := Lib.hid hnum
      go_wp2_with (fail)
      refine (PG.gamma_Number.calls A cap S2.bits r1 r2 _ (Kd.R_reads' hR).2.2 (Kd.R_reads' hR).2.1 HN.out).mono ?_
      rintro e w5 ⟨rfl, hb⟩
      replace hI := L.BC.below hI hb
      replace hR := Kd.R_below hR hb
      replace hN := L.But.next hN hb
      clear hb y0
      unfold PG.gamma_Number.f at hnum
      have hone : 0 ≤ (gOnes S2.bits : Int) ∧ (gOnes S2.bits : Int) ≤ 63 := by have := gOnes_le S2.bits; omega
      by_cases hok : gOk S2.bits = true
      · have hle : gNum S2.bits ≤ 33554432 := by
          unfold gOk at hok
          simp only [Bool.and_eq_true, decide_eq_true_eq] at hok
          unfold gNum; omega
        rw [if_pos hok, if_pos hok, Option.some.injEq, Prod.mk.injEq] at hnum
        obtain ⟨rfl, rfl⟩ := hnum
        have hT1 := hT.out
        rw [if_pos ⟨hok, hle⟩] at hT1
        have hfg := PG.fget_f (gNum S2.bits)
        rw [if_pos hle] at hfg
        generalize (gNum S2.bits : Int) = r1 at *
        generalize ufld (gNum S2.bits) = x1 at *
        have HF := Lib.hid hfg
        replace hT1 := Lib.hid hT1
        clear hfg
        go_wp2_with (fail)
        refine (PG.fold_Get.calls 5 r1 x1 0 _ HF.out).mono ?_
        rintro e w6 ⟨rfl, ⟨⟨m6, rfl⟩⟩⟩
        replace hI := L.BC.drewN hI m6
        replace hR := Kd.R_drewN hR m6
        replace hN := L.But.drewN hN m6
        generalize w5.drewN m6 = w7 at hI hR hN ⊢
        have hnx := next_any w g 92 S2.M S2.before A cap S2.bits (decC s D2) _ hS.hM hI (Kd.R_reads' hR).2.2 (Kd.R_reads' hR).2.1 hN (by omega)
        go_wp2_with (fail)
        refine hnx.mono ?_
        rintro e w8 ⟨rfl, hI8, hN8⟩
        go_wp2_with (fail)
        go_ret2
        rw [← hT1.out]
        exact ⟨rfl, hI8, ⟨hS.hM, hS.hm, hone, fun b hb => by cases hb⟩, rfl, hd, hi, hN8⟩
      · rw [if_neg hok, if_neg hok, Option.some.injEq, Prod.mk.injEq] at hnum
        obtain ⟨rfl, rfl⟩ := hnum
        have hT1 := hT.out
        rw [if_neg (fun h => hok h.1)] at hT1
        have hfg : PG.fold_Get.f 5 0 = some (ufld 0, 0) := PG.fget_f 0
        generalize ufld 0 = x1 at *
        have HF := Lib.hid hfg
        replace hT1 := Lib.hid hT1
        clear hfg
        go_wp2_with (fail)
        refine (PG.fold_Get.calls 5 0 x1 0 _ HF.out).mono ?_
        rintro e w6 ⟨rfl, ⟨⟨m6, rfl⟩⟩⟩
        replace hI := L.BC.drewN hI m6
        replace hR := Kd.R_drewN hR m6
        replace hN := L.But.drewN hN m6
        generalize w5.drewN m6 = w7 at hI hR hN ⊢
        have hnx := next_any w g 92 S2.M S2.before A cap S2.bits (decC s D2) _ hS.hM hI (Kd.R_reads' hR).2.2 (Kd.R_reads' hR).2.1 hN (by omega)
        go_wp2_with (fail)
        refine hnx.mono ?_
        rintro e w8 ⟨rfl, hI8, hN8⟩
        go_wp2_with (fail)
        go_ret2
        rw [← hT1.out]
        exact ⟨⟨_, rfl⟩, hN8⟩
    | false =>
      rw [hwc] at hwf hT
      rw [if_neg (by decide)] at hT
      have hstep := fun b hc => hJ.step (b := b) hS.h01 hwc hc
      have HW := Lib.hid hwf
      have hlen := Lib.hid hlen
      replace hT := Lib.hid hT
      clear hwf
      go_wp2_with (fail)
      refine (PG.gamma_Whole.calls _ A cap S2.bits false _ (Kd.R_reads' hO.hR).2.2 (Kd.R_reads' hO.hR).2.1 HW.out).mono ?_
      rintro e w3 ⟨rfl, ⟨⟨m3, rfl⟩⟩⟩
      have hI := L.BC.drewN hO.hI m3
      have hR := Kd.R_drewN hO.hR m3
      have hN := L.But.drewN hO.hN m3
      replace htW := htW.below (L.below_drewN (Below.refl _ _) m3)
      clear y0 hO
      generalize wr.drewN m3 = w4 at hI hR hN htW ⊢
      have y0 : w4.cell? ⟨g, 196, none⟩ = some (.slice A S2.bits.length cap) := L.BC.at_ hI (stc_bits hS.hM)
      have hof := PG.ones_f S2.bits (by omega) (S2.bits.length + 1) (by omega)
      change _ = some (_, isZ S2.bits) at hof
      have HO := Lib.hid hof
      clear hof
      go_wp2_with (fail)
      refine (PG.gamma_Ones.calls _ A cap S2.bits _ _ _ (Kd.R_reads' hR).2.2 (Kd.R_reads' hR).2.1 HO.out).mono ?_
      rintro e w5 ⟨rfl, ⟨⟨m5, rfl⟩⟩⟩
      replace hI := L.BC.drewN hI m5
      replace hR := Kd.R_drewN hR m5
      replace hN := L.But.drewN hN m5
      replace htW := htW.below (L.below_drewN (Below.refl _ _) m5)
      clear y0
      generalize w4.drewN m5 = w6 at hI hR hN htW ⊢
      by_cases c2 : isZ S2.bits = false ∧ 25 < gOnes S2.bits
      · have hT1 := hT.out
        rw [if_pos c2] at hT1
        have z1 := c2.1
        have z2 : decide ((25 : Int) < (gOnes S2.bits : Int)) = true := decide_eq_true (by omega)
        replace hT1 := Lib.hid hT1
        simp only [z1]
        go_wp2_with (fail)
        go_ret2
        rw [← hT1.out]
        exact ⟨⟨_, rfl⟩, hN⟩
      · have hT1 := hT.out
        rw [if_neg c2] at hT1
        have hbit := rbit_any w g S2 s D2 _ w6 htW hS ⟨hI, hR, hN⟩ hg hgt (by omega) hs hd hi
        have hJ1 := hstep (decV s.data.toList D2 (chance mdot S2)) c2
        rw [← lrn_bits] at hJ1
        have hS1 := lrn_in hS (decV_01 s.data.toList D2 (chance mdot S2))
        have hpr := mdot_in S2.M (cx0 S2.bits) (cx1 S2.before S2.bits) (cx2 S2.bits)
        have hd1 := PG.decB_ok (p := chance mdot S2) hd hpr.1 hpr.2
        have hl1 : (lrn lR S2 (decV s.data.toList D2 (chance mdot S2))).bits.length = S2.bits.length + 1 := by rw [lrn_bits, List.length_append]; rfl
        replace hJ1 := Lib.hid hJ1
        replace hS1 := Lib.hid hS1
        replace hd1 := Lib.hid hd1
        generalize lrn lR S2 (decV s.data.toList D2 (chance mdot S2)) = S3 at *
        generalize decB s.data.toList D2 (chance mdot S2) = D3 at *
        have z2 : isZ S2.bits = true ∨ decide ((25 : Int) < (gOnes S2.bits : Int)) = false := by
          cases hz : isZ S2.bits with
          | true => exact .inl rfl
          | false => exact .inr (decide_eq_false fun h => c2 ⟨hz, by omega⟩)
        obtain ⟨zz, hzz⟩ : ∃ zz, isZ S2.bits = zz := ⟨_, rfl⟩
        rw [hzz] at z2 ⊢
        replace hzz := Lib.hid hzz
        clear hstep c2
        by_cases c3 : D3.i ≤ 65540
        · rw [decide_eq_true c3] at hbit
          rw [if_neg (by omega)] at hT1
          replace hT1 := Lib.hid hT1
          replace c3 := Lib.hid c3
          replace hl1 := Lib.hid hl1
          rcases z2 with z2 | z2
          · subst z2
            go_wp2_with (fail)
            refine hbit.mono ?_
            rintro e w8 ⟨rfl, hN8, hmore⟩
            obtain ⟨v8, hO8⟩ := hmore c3.out
            go_wp2_with (fail)
            go_roundg n
            case measure => omega
            case rel => exact ⟨S3, D3, v8, hT1.out, by have := hl1.out; have := hlen.out; omega, hJ1.out, hS1.out, hd1.out, c3.out, hO8⟩
          · cases zz
            all_goals
              go_wp2_with (fail)
              refine hbit.mono ?_
              rintro e w8 ⟨rfl, hN8, hmore⟩
              obtain ⟨v8, hO8⟩ := hmore c3.out
              go_wp2_with (fail)
              go_roundg n
              case measure => omega
              case rel => exact ⟨S3, D3, v8, hT1.out, by have := hl1.out; have := hlen.out; omega, hJ1.out, hS1.out, hd1.out, c3.out, hO8⟩
        · rw [decide_eq_false c3] at hbit
          rw [if_pos (by omega)] at hT1
          replace hT1 := Lib.hid hT1
          replace c3 := Lib.hid c3
          replace hl1 := Lib.hid hl1
          rcases z2 with z2 | z2
          · subst z2
            go_wp2_with (fail)
            refine hbit.mono ?_
            rintro e w8 ⟨rfl, hN8, -⟩
            go_wp2_with (fail)
            go_ret2
            rw [← hT1.out]
            exact ⟨⟨_, rfl⟩, hN8⟩
          · cases zz
            all_goals
              go_wp2_with (fail)
              refine hbit.mono ?_
              rintro e w8 ⟨rfl, hN8, -⟩
              go_wp2_with (fail)
              go_ret2
              rw [← hT1.out]
              exact ⟨⟨_, rfl⟩, hN8⟩
end Go.Proofs.YtiokfaiioealdaaGreatDoor
