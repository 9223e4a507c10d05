/- A model that learned nothing, in the document's own answer (chapter 9); '==' of two models. -/
import Derived.Test.YtiokfaiioealdaaGreatDoorWModN
import Derived.Test.YtiokfaiioealdaaGreatDoorLibEq
namespace Go.Proofs.YtiokfaiioealdaaGreatDoor
open Go.RowKit Go.Proofs.YtiokfaiioealdaaGreatDoor.L
set_option linter.unusedVariables false
set_option linter.unusedSimpArgs false

set_option maxRecDepth 100000 in
set_option maxHeartbeats 1000000 in
theorem rmodel_new (w : World) : Calls Tryz.prog 38 #[] w fun e w' => e = .returned (.agg (ints newM).toArray) ∧ Below w.heap.size w w' := by
  go_enter Tryz.func38, Tryz.ntmps38
  go_wp2_with fail
  have hz : Tryz.zeroCells63 = (ints (nm 0 0)).toArray := by kernel_rfl
  rw [hz]
  clear hz
  have HG0 : Hid (((w.alloc (.cells (ints (nm 0 0)).toArray 63)).alloc (.cells (ints (nm 0 0)).toArray 63)).heap[w.heap.size + 1]? = some (.cells (ints (nm 0 0)).toArray 63 (0, 0))) := by
    have := heap_alloc_new (w.alloc (.cells (ints (nm 0 0)).toArray 63)) (.cells (ints (nm 0 0)).toArray 63)
    rwa [World.size_alloc] at this
  have HR0 : Hid (((w.alloc (.cells (ints (nm 0 0)).toArray 63)).alloc (.cells (ints (nm 0 0)).toArray 63)).heap[w.heap.size]? = some (.cells (ints (nm 0 0)).toArray 63 (0, 0))) :=
    (Below.heap_alloc _ _ _ (by simp)).trans (heap_alloc_new w _)
  have HB0 := Lib.hid (below_alloc (below_alloc (Below.refl w.heap.size w) (.cells (ints (nm 0 0)).toArray 63)) (.cells (ints (nm 0 0)).toArray 63))
  generalize ((w.alloc (.cells (ints (nm 0 0)).toArray 63)).alloc (.cells (ints (nm 0 0)).toArray 63)) = W at HG0 HR0 HB0 ⊢
  go_loopw [2] (fun v wr => ∃ i : Nat, v = .int .i64 i ∧ i ≤ 3 ∧ Hid (wr.heap[w.heap.size + 1]? = some (.cells (ints (nm (64 * i) i)).toArray 63 (0, 0))) ∧ Hid (wr.heap[w.heap.size]? = some (.cells (ints (nm 0 0)).toArray 63 (0, 0))) ∧ Hid (Below w.heap.size w wr)) (fun v _ => (3 - intOf v).toNat)
  case atStart => exact ⟨0, rfl, by omega, HG0, HR0, HB0⟩
  case round =>
    obtain ⟨i, rfl, hi, HG, HR, HB⟩ := hrel
    by_cases hlt : i < 3
    · have c1 := blk_cell HG.out (o := 192 + i) (by rw [nm_length (by omega) (by omega)]; omega)
      have f1 := blk_frozen HG.out (192 + i)
      have HG1 : Hid ((wr.setCell ⟨w.heap.size + 1, 192 + i, none⟩ (.int .i64 22000)).heap[w.heap.size + 1]? = some (.cells (ints (nm (64 * i + 0) (i + 1))).toArray 63 (0, 0))) := by
        have := blk_set HG.out (o := 192 + i) 22000
        rw [nm_weight (by omega) (by omega)] at this
        exact this
      have HR1 : Hid ((wr.setCell ⟨w.heap.size + 1, 192 + i, none⟩ (.int .i64 22000)).heap[w.heap.size]? = some (.cells (ints (nm 0 0)).toArray 63 (0, 0))) :=
        (Below.heap_setCell wr _ _ _ (by simp)).trans HR.out
      have HB1 := Lib.hid (below_set (p := ⟨w.heap.size + 1, 192 + i, none⟩) (by simp) HB.out (.int .i64 22000))
      have d1 : decide ((i : Int) < 3) = true := by simp; omega
      clear hi HG HR HB
      go_wp2_with fail
      generalize wr.setCell ⟨w.heap.size + 1, 192 + i, none⟩ (.int .i64 22000) = W1 at HG1 HR1 HB1 ⊢
      clear c1 f1
      go_loopw [3] (fun v wr => ∃ j : Nat, v = .int .i64 j ∧ j ≤ 64 ∧ Hid (wr.heap[w.heap.size + 1]? = some (.cells (ints (nm (64 * i + j) (i + 1))).toArray 63 (0, 0))) ∧ Hid (wr.heap[w.heap.size]? = some (.cells (ints (nm 0 0)).toArray 63 (0, 0))) ∧ Hid (Below w.heap.size w wr)) (fun v _ => (64 - intOf v).toNat)
      case atStart => exact ⟨0, rfl, by omega, HG1, HR1, HB1⟩
      case round =>
        obtain ⟨j, rfl, hj, HG, HR, HB⟩ := hrel
        by_cases hlt2 : j < 64
        · have c1 := blk_cell HG.out (o := i * 64 + j) (by rw [nm_length (by omega) (by omega)]; omega)
          have f1 := blk_frozen HG.out (i * 64 + j)
          have HG1 : Hid ((wr.setCell ⟨w.heap.size + 1, i * 64 + j, none⟩ (.int .i64 32768)).heap[w.heap.size + 1]? = some (.cells (ints (nm (64 * i + (j + 1)) (i + 1))).toArray 63 (0, 0))) := by
            have := blk_set HG.out (o := i * 64 + j) 32768
            rw [show i * 64 + j = 64 * i + j by omega, nm_count (by omega)] at this
            rw [show i * 64 + j = 64 * i + j by omega]
            exact this
          have HR1 : Hid ((wr.setCell ⟨w.heap.size + 1, i * 64 + j, none⟩ (.int .i64 32768)).heap[w.heap.size]? = some (.cells (ints (nm 0 0)).toArray 63 (0, 0))) :=
            (Below.heap_setCell wr _ _ _ (by simp)).trans HR.out
          have HB1 := Lib.hid (below_set (p := ⟨w.heap.size + 1, i * 64 + j, none⟩) (by simp) HB.out (.int .i64 32768))
          have d1 : decide ((i : Int) < 3) = true := by simp; omega
          have d2 : decide ((j : Int) < 64) = true := by simp; omega
          have bi : (i : Int) < 3 := by omega
          have bj : (j : Int) < 64 := by omega
          clear HG HR HB hj
          go_wp2_with fail
          go_roundw
          case rel => exact ⟨j + 1, by go_num, by omega, HG1, HR1, HB1⟩
          case measure => simp [intOf]; omega
        · obtain rfl : j = 64 := by omega
          have HG2 : Hid (wr.heap[w.heap.size + 1]? = some (.cells (ints (nm (64 * (i + 1)) (i + 1))).toArray 63 (0, 0))) := HG
          clear hj HG
          go_wp2
          go_roundw
          case rel => exact ⟨i + 1, by go_num, by omega, HG2, HR, HB⟩
          case measure => simp [intOf]; omega
    · obtain rfl : i = 3 := by omega
      clear hi hlt
      have HG3 : Hid (wr.heap[w.heap.size + 1]? = some (.cells (ints newM).toArray 63 (0, 0))) := HG
      have hsz : (Tryz.prog.info? 63).map (·.size) = some (ints newM).length := by rw [ints_length]; exact info_model
      have hszA : (Tryz.prog.info? 63).map (·.size) = some (ints newM).toArray.size := hsz
      have hth : wr.there w.heap.size 0 (ints newM).toArray.size := blk_there HR.out (by simp [ints_length, newM, nm_length])
      have HSZ := Lib.hid hsz
      have HSZA := Lib.hid hszA
      have HTH := Lib.hid hth
      clear HG hsz hszA hth
      go_wp2_with (first
        | (with_reducible refine wpList_load_mid rfl 63 (.tmp 1) rfl (w.heap.size + 1) 0 ?_ (ints newM) _ (blk_range HG3.out) Tryz.underlying63 rfl HSZ.out ?_)
        | (with_reducible refine wpList_store_mid rfl 63 (.tmp 0) (.tmp 20) rfl w.heap.size 0 (ints newM).toArray ?_ ?_ HTH.out HSZA.out (all_oneCell_toArray (ints_one _)) ?_))
      all_goals first | rfl | skip
      have hrs := World.rangeAt_setCells_same wr w.heap.size 0 (ints newM) HTH.out
      refine bodyPost_ret (results_cell1 (P := Tryz.prog) Tryz.results38 _ _ w.heap.size (ints newM) _ ?_ hrs Tryz.underlying63 rfl HSZ.out) ?_ ⟨rfl, below_setCells (Nat.le_refl _) _ _ _ HB.out⟩
      all_goals first | rfl | go_simp
end Go.Proofs.YtiokfaiioealdaaGreatDoor
