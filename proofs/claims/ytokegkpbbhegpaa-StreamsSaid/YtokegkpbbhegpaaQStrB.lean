/- Streams: for any stream and any text, Put and Get are the document's, come back and stay, and nothing of the arguments is changed. Conditions: none but that the input can be read. -/
import Derived.Test.YtokegkpbbhegpaaPUx1
import Derived.Test.YtokegkpbbhegpaaQStrA
import Derived.Test.YtokegkpbbhegpaaWGetD
import Derived.Test.YtokegkpbbhegpaaPSx2
import Derived.Test.YtokegkpbbhegpaaPBack
import Derived.WalkKit
import Derived.ProofKit
import Derived.OpenShut
import Derived.ShutString
import Derived.ChangeOld
import Derived.Below
import Derived.SizedLaws
import Derived.Deep.Strs
import Derived.Test.YtokegkpbbhegpaaRows
/- The document's PutStream: its bytes are putB; lists and numbers alone. -/
namespace Go.Proofs.Ytokegkpbbhegpaa.PU
open Go.RowKit Go.Proofs.YtokegkpbbhegpaaW.PrintWords Go.Proofs.Ytokegkpbbhegpaa.PT Go.Proofs.Ytokegkpbbhegpaa.L
set_option linter.unusedVariables false
set_option linter.unusedSimpArgs false
theorem low_more {v n : Int} {r : ByteArray} (h : PT.descantref1_Low.f 40 v n = some r) : ∀ m, PT.descantref1_Low.f (40 + m) v n = some r
  | 0 => h
  | m + 1 => PT.descantref1_Low.mono v n (40 + m) r (low_more h m)
theorem low_k {k : Nat} {v n : Int} {r : ByteArray} (hk : 40 ≤ k) (h : PT.descantref1_Low.f 40 v n = some r) : PU.descantref1_Low.f k v n = some r := by
  obtain ⟨m, rfl⟩ : ∃ m, k = 40 + m := ⟨k - 40, by omega⟩
  exact low_more h m
theorem low1_eq (v : Int) : PT.descantref1_Low.f 40 v 1 = some (⟨[lowB v].toArray⟩ : ByteArray) := by
  simp [PT.descantref1_Low.f, PT.descantref1_Low.l0, wrap64]
  simp [strOfNums, lowB, shr0]
theorem low2_eq (v : Int) : PT.descantref1_Low.f 40 v 2 = some (⟨(le2 v).toArray⟩ : ByteArray) := by
  simp [PT.descantref1_Low.f, PT.descantref1_Low.l0, wrap64]
  simp [strOfNums, le2, lowB, shr0, shr8]
theorem vi_k {k : Nat} {x : Int} (hk : 10 ≤ k) (h0 : 0 ≤ x) (h1 : x ≤ 4096) : PU.descantref13_varint.f k x = some ⟨(viB x).toArray⟩ := by
  show PT.descantref13_varint.f k x = _
  unfold PT.descantref13_varint.f
  rw [PT.rput_eq hk, if_pos ⟨h0, by omega⟩, viC_small h0 (by omega)]; rfl
theorem size_mk (l : List UInt8) : (⟨l.toArray⟩ : ByteArray).size = l.length := by rw [← ByteArray.size_data]; simp
theorem mk_add (a b : List UInt8) : (⟨a.toArray⟩ : ByteArray) ++ ⟨b.toArray⟩ = ⟨(a ++ b).toArray⟩ := ba_ext (by simp)
theorem add_mk (a : ByteArray) (b : List UInt8) : a ++ ⟨b.toArray⟩ = ⟨(a.data.toList ++ b).toArray⟩ := ba_ext (by simp)
theorem mk_add' (a : List UInt8) (b : ByteArray) : (⟨a.toArray⟩ : ByteArray) ++ b = ⟨(a ++ b.data.toList).toArray⟩ := ba_ext (by simp)
theorem viB_len (x : Int) : (viB x).length ≤ 2 := by unfold viB; split <;> simp
theorem rd_drop {l : List Int} {i : Nat} (h : i < l.length) : l.drop i = rd l (i : Int) :: l.drop (i + 1) := by
  rw [List.drop_eq_getElem_cons h]
  congr 1
  unfold rd
  rw [Int.toNat_natCast, List.getD_eq_getElem?_getD, List.getElem?_eq_getElem h]; rfl
theorem rdT_take {l : List ByteArray} {i : Nat} (h : i < l.length) : l.take (i + 1) = l.take i ++ [rdOf ByteArray.empty l (i : Int)] := by
  rw [List.take_succ_eq_append_getElem h]
  congr 2
  unfold rdOf
  rw [Int.toNat_natCast, List.getD_eq_getElem?_getD, List.getElem?_eq_getElem h]; rfl
theorem ahead_go {l : List Int} : ∀ (n k i : Nat) (s : List UInt8), i + n = l.length → n + 45 ≤ k → s.length + 2 * n ≤ 1000000 → l.length ≤ 100000 →
    descantref13_ahead.l0 k l ⟨s.toArray⟩ (i : Int) = some ⟨(s ++ (l.drop i).flatMap le2).toArray⟩
  | n, 0, _, _, _, h, _, _ => by omega
  | 0, k + 1, i, s, hi, hk, hs, hL => by
    rw [descantref13_ahead.l0, if_neg (by omega), List.drop_of_length_le (by omega)]
    simp
  | n + 1, k + 1, i, s, hi, hk, hs, hL => by
    rw [descantref13_ahead.l0, if_pos (by omega), if_pos (by omega), low_k (by omega) (low2_eq _), Option.bind_some, size_mk, size_mk, if_pos (by simp [le2]; omega), mk_add,
      IntWalk.wrap64_in ((i : Int) + 1) (by omega), show (i : Int) + 1 = ((i + 1 : Nat) : Int) by omega, ahead_go n k (i + 1) _ (by omega) (by omega) (by simp [le2]; omega) hL]
    rw [rd_drop (show i < l.length by omega), List.flatMap_cons, List.append_assoc]
theorem ahead_eq {k : Nat} {c b z f : Int} {h t : ByteArray} (lM : List ByteArray) {l : List Int} (hk : l.length + 100 ≤ k) (h0 : 0 ≤ f) (h1 : f ≤ 4096) (h2 : h.size ≤ 4096) (h3 : t.size ≤ 4096) (h4 : l.length ≤ 4159) :
    descantref13_ahead.f k c b z f h t lM l = some ⟨(preB c b z f h t ++ l.flatMap le2).toArray⟩ := by
  have v1 := viB_len f
  have v2 := viB_len (h.size : Int)
  have v3 := viB_len (t.size : Int)
  have hh := size_list h
  have ht := size_list t
  have hd : (⟨#[68, 83, 67, 84]⟩ : ByteArray) = ⟨([68, 83, 67, 84] : List UInt8).toArray⟩ := rfl
  have w1 := vi_k (k := k) (x := f) (by omega) h0 h1
  have w2 := vi_k (k := k) (x := (h.size : Int)) (by omega) (by omega) (by omega)
  have w3 := vi_k (k := k) (x := (t.size : Int)) (by omega) (by omega) (by omega)
  unfold descantref13_ahead.f preB
  rw [w1, w2, w3, hd]
  clear w1 w2 w3 hd
  generalize viB f = vf at *
  generalize viB (h.size : Int) = vh at *
  generalize viB (t.size : Int) = vt at *
  rw [low_k (by omega) (low1_eq c), Option.bind_some, if_pos (by rw [size_mk]; simp), mk_add]
  rw [low_k (by omega) (low1_eq b), Option.bind_some, if_pos (by rw [size_mk, size_mk]; simp), mk_add]
  rw [low_k (by omega) (low1_eq z), Option.bind_some, if_pos (by rw [size_mk, size_mk]; simp), mk_add]
  rw [Option.bind_some, if_pos (by rw [size_mk, size_mk]; simp only [List.length_append, List.length_cons, List.length_nil]; omega), mk_add]
  rw [Option.bind_some, if_pos (by rw [size_mk, size_mk]; simp only [List.length_append, List.length_cons, List.length_nil]; omega), mk_add]
  rw [Option.bind_some, if_pos (by rw [size_mk, size_mk]; simp only [List.length_append, List.length_cons, List.length_nil]; omega), mk_add]
  rw [if_pos (by rw [size_mk ([68, 83, 67, 84] ++ [lowB c] ++ [lowB b] ++ [lowB z] ++ vf ++ vh ++ vt)]; simp only [List.length_append, List.length_cons, List.length_nil]; omega), mk_add' ([68, 83, 67, 84] ++ [lowB c] ++ [lowB b] ++ [lowB z] ++ vf ++ vh ++ vt)]
  rw [if_pos (by rw [size_mk ([68, 83, 67, 84] ++ [lowB c] ++ [lowB b] ++ [lowB z] ++ vf ++ vh ++ vt ++ h.data.toList)]; simp only [List.length_append, List.length_cons, List.length_nil]; omega), mk_add' ([68, 83, 67, 84] ++ [lowB c] ++ [lowB b] ++ [lowB z] ++ vf ++ vh ++ vt ++ h.data.toList)]
  have := ahead_go (l := l) l.length k 0 ([68, 83, 67, 84] ++ [lowB c] ++ [lowB b] ++ [lowB z] ++ vf ++ vh ++ vt ++ h.data.toList ++ t.data.toList) (by omega) (by omega) (by simp only [List.length_append, List.length_cons, List.length_nil]; omega) (by omega)
  rw [show ((0 : Nat) : Int) = 0 from rfl] at this
  rw [this]
  rfl
theorem map_len (l : List ByteArray) (n : Nat) : ((l.take n).map (fun x => (x.size : Int))).length ≤ l.length := by rw [List.length_map, List.length_take]; omega
theorem put_go {c b z f : Int} {h t : ByteArray} {l : List ByteArray} (hm : mayOk c b z f h t l = true) : ∀ (n k i : Nat), i + n = l.length → n + l.length + 200 ≤ k →
    descantref13_PutStream.l0 k ((l.take i).map (fun x => (x.size : Int))) ⟨((l.take i).flatMap (fun x => x.data.toList)).toArray⟩ (i : Int) c b z f h t l = some (⟨(putB c b z f h t l).toArray⟩, 0)
  | n, 0, _, _, h => by omega
  | 0, k + 1, i, hi, hk => by
    obtain ⟨m1, m2, m3, m4, m5, m6⟩ := may_facts hm
    have hf := flat_length l (fun x hx => (m6 x hx).2)
    have hp : (preB c b z f h t).length ≤ 10000 := by
      have v1 := viB_len f
      have v2 := viB_len (h.size : Int)
      have v3 := viB_len (t.size : Int)
      have hh := size_list h
      have ht := size_list t
      unfold preB
      simp only [List.length_append, List.length_cons, List.length_nil]; omega
    have hl2 := tab_len l
    rw [descantref13_PutStream.l0, if_neg (by omega), List.take_of_length_le (by omega), ahead_eq l (by rw [List.length_map]; omega) m1 m2 m3 m4 (by rw [List.length_map]; omega), Option.bind_some, ← flatMap_sizes]
    have hB : headB c b z f h t l = preB c b z f h t ++ l.flatMap (fun x => le2 (x.size : Int)) := rfl
    rw [← hB]
    have hBl : (headB c b z f h t l).length ≤ 100000 := by rw [hB, List.length_append]; omega
    unfold descantref1_Crc.f
    rw [if_pos (by rw [size_mk]; omega), Option.bind_some, low_k (by omega) (low_eq _), Option.bind_some, if_pos (by rw [size_mk, size_mk]; simp [le4]; omega), mk_add, if_pos (by rw [size_mk, size_mk]; simp only [List.length_append, le4, List.length_cons, List.length_nil]; omega), mk_add]
    rfl
  | n + 1, k + 1, i, hi, hk => by
    obtain ⟨m1, m2, m3, m4, m5, m6⟩ := may_facts hm
    have hf := flat_length (l.take i) (fun x hx => (m6 x (List.mem_of_mem_take hx)).2)
    have hlt : (l.take i).length ≤ 4096 := by rw [List.length_take]; omega
    have hx : (rdOf ByteArray.empty l (i : Int)).size ≤ 65535 := (m6 _ (List.mem_of_getElem? (rdOf_some (show i < l.length by omega)))).2
    have ih := put_go hm n k (i + 1) (by omega) (by omega)
    rw [rdT_take (by omega), List.map_append, List.flatMap_append] at ih
    rw [descantref13_PutStream.l0, if_pos (by omega), if_pos (by omega), if_pos (by rw [List.length_map]; omega), if_pos (by rw [size_mk]; omega), mk_add', IntWalk.wrap64_in ((i : Int) + 1) (by omega), show (i : Int) + 1 = ((i + 1 : Nat) : Int) by omega]
    simpa using ih
/-- The document's PutStream. -/
theorem putr_eq {c b z f : Int} {h t : ByteArray} {l : List ByteArray} (hl : l.length < 281474976710656) : descantref13_PutStream.f 20000 c b z f h t l = some (if mayOk c b z f h t l = true then (⟨(putB c b z f h t l).toArray⟩, 0) else (⟨#[]⟩, 2300)) := by
  unfold descantref13_PutStream.f
  have : descantref13_StreamMay.f c b z f h t l = some (mayOk c b z f h t l) := by
    unfold descantref13_StreamMay.f PT.descantref13_StreamMay.f
    rw [if_pos hl]
  rw [this, Option.bind_some]
  by_cases hm : mayOk c b z f h t l = true
  · rw [if_pos hm, if_pos hm]
    obtain ⟨m1, m2, m3, m4, m5, m6⟩ := may_facts hm
    have := put_go hm l.length 20000 0 (by omega) (by omega)
    simpa using this
  · rw [if_neg hm, if_neg hm]
end Go.Proofs.Ytokegkpbbhegpaa.PU
/- SpoilTexts: it writes over texts that were made later; what is older stays. -/
namespace Go.Proofs.Ytokegkpbbhegpaa
open Go.RowKit Go.Proofs.YtokegkpbbhegpaaW.PrintWords Go.Proofs.Ytokegkpbbhegpaa.L
set_option linter.unusedVariables false
set_option linter.unusedSimpArgs false
set_option maxHeartbeats 4000000 in
set_option maxRecDepth 100000 in
theorem spoil_any (A : Option Addr) (c : Nat) (l : List ByteArray) (w : World) (base : Nat) (hr : Kd.R Kd.string 9 w base (fun _ => True) (.slice A l.length c) l) (hb : base ≤ w.heap.size) (hl : l.length < 281474976710656) (hz : ∀ x ∈ l, x.size ≤ 1000000) :
    Calls Try.prog 15 #[.slice A l.length c] w fun e w' => e = .returned (.tuple #[]) ∧ Below base w w' := by
  go_enter Try.func15, Try.ntmps15
  go_wp2
  go_loopg [2] l.length (fun kq v2 W => ∃ (i : Nat) (l' : List ByteArray), v2 = .int .i64 (i : Int) ∧ i + kq = l.length ∧ l'.length = l.length ∧ Kd.R Kd.string 9 W base (fun _ => True) (.slice A l.length c) l' ∧ l'.drop i = l.drop i ∧ Below base w W)
  case atStart => exact ⟨0, l, by simp, by omega, rfl, hr, rfl, Below.refl _ _⟩
  case round =>
    clear hr
    obtain ⟨i, l', rfl, hi, hl', hR, hd, hB⟩ := hrel
    by_cases c1 : i < l.length
    · have c1d : decide ((i : Int) < (l.length : Int)) = true := decide_eq_true (by omega)
      obtain ⟨g, cap, e, hbg, hgs, -⟩ := Kd.R_form hR (by omega)
      rw [hl'] at e
      injection e with e1 e2 e3
      subst e1 e3
      obtain ⟨hx, hf⟩ := Kd.R_celln ByteArray.empty hR (i : Int) (by omega) (by omega)
      obtain ⟨X, hX⟩ : ∃ X, rdOf ByteArray.empty l' (i : Int) = X := ⟨_, rfl⟩
      have hXz : X.size ≤ 1000000 := by
        refine hz X ?_
        have h1 : l'.drop i = X :: l'.drop (i + 1) := by
          rw [List.drop_eq_getElem_cons (by omega)]
          congr 1
          rw [← hX]; unfold rdOf
          rw [Int.toNat_natCast, List.getD_eq_getElem?_getD, List.getElem?_eq_getElem (by omega)]; rfl
        have h2 : X ∈ l.drop i := by rw [← hd, h1]; exact List.mem_cons_self ..
        exact List.mem_of_mem_drop h2
      rw [hX] at hx
      have hP := Kd.R_putg hR (i : Int) ((⟨#[126]⟩ : ByteArray) ++ X)
      rw [Int.toNat_natCast] at hx hf hP
      have hxx : Value.string X = Value.string X := rfl
      have p0 := eq_true (show (0 : Int) ≤ (i : Int) by omega)
      have p1 := eq_true (show (i : Int) < (l.length : Int) by omega)
      have p2 := eq_true (show 1 + X.size ≤ 9223372036854775807 by omega)
      replace hP := Lib.hid hP
      go_wp2
      obtain ⟨kk, rfl⟩ : ∃ kk, gk = kk + 1 := ⟨gk - 1, by omega⟩
      go_roundg kk
      case measure => omega
      case rel =>
        refine ⟨i + 1, l'.set i ((⟨#[126]⟩ : ByteArray) ++ X), by simp, by omega, by rw [List.length_set]; exact hl', hP.out.1, ?_, hB.setCell (p := ⟨g, i, none⟩) hbg _⟩
        rw [List.drop_set_of_lt (by omega), ← List.drop_drop, hd, List.drop_drop]
    · have c1d : decide ((i : Int) < (l.length : Int)) = false := decide_eq_false (by omega)
      go_wp2
      exact bodyPost_end (results_none Try.results15 _ _ _) rfl ⟨rfl, hB⟩
end Go.Proofs.Ytokegkpbbhegpaa
/- SameTexts, SameStream: equality. -/
namespace Go.Proofs.Ytokegkpbbhegpaa.PS
open Go.RowKit Go.Proofs.YtokegkpbbhegpaaW.PrintWords Go.Proofs.YtokegkpbbhegpaaW.PrintLast Go.Proofs.YtokegkpbbhegpaaW.PrintMore Go.Proofs.Ytokegkpbbhegpaa.L
set_option linter.unusedVariables false
set_option linter.unusedSimpArgs false

theorem same_go (l m : List ByteArray) (h : l.length = m.length) (hb : l.length ≤ 4611686018427387904) : ∀ (n k i : Nat), i + n = l.length → n < k → descantlaw0_SameTexts.l0 k l m (i : Int) = some (decide (l.drop i = m.drop i))
  | _, 0, _, _, hk => absurd hk (Nat.not_lt_zero _)
  | 0, k + 1, i, hi, _ => by
    rw [descantlaw0_SameTexts.l0, if_neg (by omega), List.drop_eq_nil_of_le (by omega), List.drop_eq_nil_of_le (by omega)]; rfl
  | n + 1, k + 1, i, hi, hk => by
    have h1 : i < l.length := by omega
    have h2 : i < m.length := by omega
    rw [descantlaw0_SameTexts.l0, if_pos (by omega), if_pos (by omega), if_pos (by omega)]
    have e1 : rdOf ByteArray.empty l (i : Int) = l[i] := by unfold rdOf; rw [Int.toNat_natCast, List.getD_eq_getElem?_getD, List.getElem?_eq_getElem h1]; rfl
    have e2 : rdOf ByteArray.empty m (i : Int) = m[i] := by unfold rdOf; rw [Int.toNat_natCast, List.getD_eq_getElem?_getD, List.getElem?_eq_getElem h2]; rfl
    rw [e1, e2, List.drop_eq_getElem_cons h1, List.drop_eq_getElem_cons h2]
    by_cases c : l[i] = m[i]
    · rw [if_pos (by rw [c]), IntWalk.wrap64_in _ (by omega), show ((i : Int) + 1) = ((i + 1 : Nat) : Int) by omega, same_go l m h hb n k (i + 1) (by omega) (by omega)]
      refine congrArg some (decide_eq_decide.2 ?_)
      rw [c]
      exact ⟨fun e => by rw [e], fun e => (List.cons.inj e).2⟩
    · rw [if_neg (fun he => c (ba_ext (by rw [← ByteArray.toList_eq, ← ByteArray.toList_eq]; exact he)))]
      exact congrArg some (decide_eq_false (fun e => c (List.cons.inj e).1)).symm
theorem same_texts (l m : List ByteArray) (hb : l.length ≤ 4611686018427387904) {k : Nat} (hk : l.length < k) : descantlaw0_SameTexts.f k l m = some (decide (l = m)) := by
  unfold descantlaw0_SameTexts.f
  by_cases h : l.length = m.length
  · rw [if_pos (by omega)]
    have := same_go l m h hb l.length k 0 (by omega) hk
    rw [List.drop_zero, List.drop_zero] at this
    exact this
  · rw [if_neg (by omega), decide_eq_false (fun e => h (by rw [e]))]
theorem same_stream {c b s f : Int} {h t : ByteArray} {l : List ByteArray} {c' b' s' f' : Int} {h' t' : ByteArray} {l' : List ByteArray} (hb : l.length ≤ 4611686018427387904) {k : Nat} (hk : l.length < k) :
    descantlaw0_SameStream.f k c b s f h t l c' b' s' f' h' t' l' = some (decide (c = c' ∧ b = b' ∧ s = s' ∧ f = f' ∧ h = h' ∧ t = t' ∧ l = l')) := by
  have bl : ∀ x y : ByteArray, x.toList = y.toList ↔ x = y := fun x y => ⟨fun e => ba_ext (by rw [← ByteArray.toList_eq, ← ByteArray.toList_eq]; exact e), fun e => by rw [e]⟩
  unfold descantlaw0_SameStream.f
  rw [same_texts l l' hb hk]
  by_cases h1 : c = c' <;> by_cases h2 : b = b' <;> by_cases h3 : s = s' <;> by_cases h4 : f = f' <;> by_cases h5 : h = h' <;> by_cases h6 : t = t' <;> simp [h1, h2, h3, h4, h5, h6, bl]
end Go.Proofs.Ytokegkpbbhegpaa.PS
/- An argument that is a Stream, taken by value: its fields, its segments as a list of texts. -/
namespace Go.Proofs.Ytokegkpbbhegpaa
open Go.ChangeShapes Go.WideShapes Go.ChangeAt Go.RowKit Go.Proofs.YtokegkpbbhegpaaW.PrintWords
set_option linter.unusedVariables false
set_option linter.unusedSimpArgs false
theorem cells26 : Try.prog.cellsOf 26 = 7 := by kernel_rfl
theorem cells23 : Try.prog.cellsOf 23 = 2 := by kernel_rfl
theorem cells3 : Try.prog.cellsOf 3 = 1 := by kernel_rfl
theorem cells9 : Try.prog.cellsOf 9 = 1 := by kernel_rfl
theorem cells24 : Try.prog.cellsOf 24 = 1 := by kernel_rfl
theorem bytes9 : Try.prog.bytesOf 9 = 16 := by kernel_rfl
section
variable {H : Type} {enc : TypeId × Value → H} {W : World} {base : Nat} {v : Value} {d : DataW H} {p : List MemPlace}
theorem open_texts {fuel : Nat} {cs : List Value} {x : DataW H × List MemPlace} (h : DataW.trod enc Try.prog W 0 (fun _ => true) true fuel 24 cs = some x) :
    ∃ (A : Option Addr) (l : List ByteArray) (m : Nat), cs = [.slice A l.length m] ∧ Kd.C Kd.string W A l.length l ∧ l.length ≤ m ∧ ((∀ n ∈ x.1.weights Try.prog 24, n ≤ reachBytes) → l.length < 8796093022208) := by
  rcases Go.Deep.open_strs Try.underlying24 Try.underlying9 cells9 h with ⟨rfl, -⟩ | ⟨a, len, cap, m, Sx, rfl, -, hl, hc, hm, hx, hcell⟩
  · exact ⟨none, [], 0, rfl, ⟨rfl, by decide, fun h => absurd h (by decide)⟩, Nat.le_refl _, fun _ => by decide⟩
  · have hmc : m = cap := by rw [hm]; rfl
    subst hmc
    refine ⟨some a, (List.range len).map Sx, m, by rw [List.length_map, List.length_range], ?_, by rw [List.length_map, List.length_range]; exact hl, fun hz => ?_⟩
    · refine ⟨rfl, ?_, fun _ => ⟨a, rfl, fun j q hj => ?_⟩⟩
      · rw [List.length_map, List.length_range]
        have : maxLen ≤ 9223372036854775807 := by decide
        omega
      · rw [List.getElem?_map] at hj
        cases hr : (List.range len)[j]? with
        | none => rw [hr] at hj; cases hj
        | some k =>
          rw [hr] at hj
          obtain rfl := Option.some.inj hj
          have hk := List.getElem?_eq_some_iff.1 hr
          obtain ⟨hjl, hk⟩ := hk
          rw [List.length_range] at hjl
          rw [List.getElem_range] at hk
          subst hk
          refine ⟨[.string (Sx j)], rfl, rfl, fun i u hi => ?_⟩
          match i, hi with
          | 0, hi =>
            obtain rfl := Option.some.inj hi
            have := (hcell j (by omega)).1
            show W.cell? (a.add (j * 1 + 0)) = _
            rw [Nat.mul_one, Nat.add_zero]; exact this
          | i + 1, hi => simp at hi
    · have := hz ((len + (m - len)) * Try.prog.bytesOf 9) (by rw [hx]; simp [DataW.weights, Try.underlying24])
      rw [bytes9] at this
      have : reachBytes = 140737488351232 := by decide
      rw [List.length_map, List.length_range]
      omega
theorem open_stream (hv : Value.okWide Try.prog W .any base 26 v) (h : DataW.Trod enc Try.prog W 0 (fun _ => true) true 26 v d p) (hz : ∀ n ∈ d.weights Try.prog 26, n ≤ reachBytes) :
    ∃ (c b z f : Int) (hd tl : ByteArray) (A : Option Addr) (l : List ByteArray) (m : Nat), v = .agg #[.int .i64 c, .int .i64 b, .int .i64 z, .int .i64 f, .string hd, .string tl, .slice A l.length m] ∧ Kd.C Kd.string W A l.length l ∧ l.length ≤ m ∧ l.length < 8796093022208 := by
  obtain ⟨cs, rfl, hs⟩ := okWide_struct Try.underlying26 hv
  obtain ⟨fuel, hf⟩ := h
  obtain ⟨xs, n, rfl, hx, hl, hlen, hfs⟩ := DataW.trod_struct Try.underlying26 hf
  obtain ⟨L, hL⟩ : ∃ L, (Value.agg cs).cells.toList = L := ⟨_, rfl⟩
  have hcs : cs = L.toArray := by rw [← hL]; simp [Value.cells]
  rw [hL] at hfs hl
  rw [cells26] at hl
  match L, hl, xs, hlen with
  | [v0, v1, v2, v3, v4, v5, v6], _, [x0, x1, x2, x3, x4, x5], _ =>
    have f0 := hfs 0 _ rfl
    have f1 := hfs 1 _ rfl
    have f2 := hfs 2 _ rfl
    have f3 := hfs 3 _ rfl
    have f4 := hfs 4 _ rfl
    have f5 := hfs 5 _ rfl
    simp only [cells23, cells3, cells9, cells24, List.drop_zero, List.drop_succ_cons, List.take_succ_cons, List.take_zero, List.getElem?_cons_zero, List.getElem?_cons_succ] at f0 f1 f2 f3 f4 f5
    obtain ⟨y0, y1, k, rfl, -, g0, g1⟩ := trod_struct2 Try.underlying23 f0
    simp only [cells3, List.drop_zero, List.drop_succ_cons, List.take_succ_cons, List.take_zero] at g0 g1
    obtain ⟨c, ec, -, -⟩ := DataW.trod_int Try.underlying3 g0
    obtain ⟨b, eb, -, -⟩ := DataW.trod_int Try.underlying3 g1
    obtain ⟨z, ez, -, -⟩ := DataW.trod_int Try.underlying3 f1
    obtain ⟨f, ef, -, -⟩ := DataW.trod_int Try.underlying3 f2
    obtain ⟨hd, eh, -, -⟩ := DataW.trod_string Try.underlying9 f3
    obtain ⟨tl, et, -, -⟩ := DataW.trod_string Try.underlying9 f4
    obtain ⟨A, l, m, es, hC, hm, hw⟩ := open_texts f5
    obtain rfl : v0 = _ := (List.cons.inj ec).1
    obtain rfl : v1 = _ := (List.cons.inj eb).1
    obtain rfl : v2 = _ := (List.cons.inj ez).1
    obtain rfl : v3 = _ := (List.cons.inj ef).1
    obtain rfl : v4 = _ := (List.cons.inj eh).1
    obtain rfl : v5 = _ := (List.cons.inj et).1
    obtain rfl : v6 = _ := (List.cons.inj es).1
    refine ⟨c, b, z, f, hd, tl, A, l, m, by rw [hcs], hC, hm, hw fun n hn => hz n ?_⟩
    have hd' := (Prod.mk.inj hx).1
    rw [hd']
    simp only [DataW.weights, Try.underlying26, List.map_cons, List.map_nil, DataW.weightsEach, List.mem_append, List.append_nil]
    exact .inr (.inr (.inr (.inr (.inr hn))))
end
end Go.Proofs.Ytokegkpbbhegpaa
/- Streams, walked. -/
namespace Go.Proofs.Ytokegkpbbhegpaa
open Go.RowKit Go.Proofs.YtokegkpbbhegpaaW.PrintWords Go.Proofs.YtokegkpbbhegpaaW.PrintLast Go.Proofs.YtokegkpbbhegpaaW.PrintMore Go.Proofs.Ytokegkpbbhegpaa.L
set_option linter.unusedVariables false
set_option linter.unusedSimpArgs false
theorem parts_in {s : ByteArray} : ∀ (l : List Int) (p : Int) (a r : List ByteArray), PT.partsV s l p a = some r → (∀ x ∈ a, x.size ≤ s.size) → r.length = a.length + l.length ∧ ∀ x ∈ r, x.size ≤ s.size
  | [], p, a, r, h, ha => by
    rw [PT.partsV] at h
    split at h
    · cases h; exact ⟨rfl, ha⟩
    · cases h
  | z :: l, p, a, r, h, ha => by
    rw [PT.partsV] at h
    split at h
    · cases h
    · obtain ⟨h1, h2⟩ := parts_in l _ _ r h (by
        intro x hx
        rcases List.mem_append.1 hx with hx | hx
        · exact ha x hx
        · rw [List.mem_singleton] at hx; subst hx; rw [ByteArray.size_extract]; omega)
      exact ⟨by rw [h1]; simp only [List.length_append, List.length_cons, List.length_nil]; omega, h2⟩
theorem getV_in (s : ByteArray) : (PT.getV s).2.2.2.2.2.2.1.length ≤ 4159 ∧ ∀ x ∈ (PT.getV s).2.2.2.2.2.2.1, x.size ≤ 65536 := by
  unfold PT.getV
  cases hh : PT.headV s with
  | none => exact ⟨by simp, by intro x hx; cases hx⟩
  | some r =>
    obtain ⟨b, c, z, f, h, t, l, p⟩ := r
    obtain ⟨h1, h2, h3, h4, h5⟩ := PT.head_in hh
    simp only []
    split
    · exact ⟨by simp, by intro x hx; cases hx⟩
    · cases hp : PT.partsV s l (p + 4) [] with
      | none => exact ⟨by simp, by intro x hx; cases hx⟩
      | some a =>
        obtain ⟨q1, q2⟩ := parts_in l _ _ a hp (by intro x hx; cases hx)
        simp only [List.length_nil] at q1
        exact ⟨by simp only []; omega, fun x hx => by have := q2 x hx; omega⟩
set_option maxHeartbeats 4000000 in
theorem num_is (x : Int) (w : World) : Calls Try.prog 13 #[.int .i64 x] w fun e w' => e = .returned (.int .i64 x) ∧ w = w' := by
  go_enter Try.func13, Try.ntmps13
  go_wp2
  go_ret
  exact ⟨rfl, rfl⟩

set_option maxHeartbeats 16000000 in
set_option maxRecDepth 100000 in
theorem streams_walk (c b z f : Int) (hd tl : ByteArray) (A : Option Addr) (l : List ByteArray) (m : Nat) (s : ByteArray) (w : World) (hC : Kd.C Kd.string w A l.length l) (hm : l.length ≤ m) (hn : l.length < 8796093022208) :
    Calls Try.prog 3 #[.agg #[.int .i64 c, .int .i64 b, .int .i64 z, .int .i64 f, .string hd, .string tl, .slice A l.length m], .string s] w fun e w' => e = .returned (.bool true) ∧ Below w.heap.size w w' := by
  have hcopy : Hid (PT.descantlaw0_CopyStream.f c b z f hd tl l = some (c, b, z, f, hd, tl, l)) := Lib.hid (by unfold PT.descantlaw0_CopyStream.f; simp [hn])
  obtain ⟨S, hS⟩ : ∃ S : ByteArray, (if mayOk c b z f hd tl l = true then ⟨(putB c b z f hd tl l).toArray⟩ else ⟨#[]⟩) = S := ⟨_, rfl⟩
  obtain ⟨E, hE⟩ : ∃ E : Int, (if mayOk c b z f hd tl l = true then 0 else 2300) = E := ⟨_, rfl⟩
  have hput : ∀ (B : Option Addr) (q : Nat) (w1 : World), Kd.C Kd.string w1 B l.length l → l.length ≤ q → Calls Try.prog 9 #[.agg #[.int .i64 c, .int .i64 b, .int .i64 z, .int .i64 f, .string hd, .string tl, .slice B l.length q]] w1 fun e w' => e = .returned (.tuple #[.string S, .int .i64 E]) ∧ Below w1.heap.size w1 w' := by
    intro B q w1 h1 h2
    have := put_any c b z f hd tl l B q w1 h1 h2 (by omega)
    rwa [hS, hE] at this
  have hputr : Hid (PU.descantref13_PutStream.f 20000 c b z f hd tl l = some (S, E)) := Lib.hid (by
    rw [PU.putr_eq (by omega), ← hS, ← hE]
    split <;> rfl)
  obtain ⟨g1, g2, g3, g4, g5, g6, g7, g8, hg⟩ : ∃ g1 g2 g3 g4 g5 g6 g7 g8, PT.getV s = (g1, g2, g3, g4, g5, g6, g7, g8) := ⟨_, _, _, _, _, _, _, _, rfl⟩
  obtain ⟨hg7, hg7z⟩ : g7.length ≤ 4159 ∧ ∀ x ∈ g7, x.size ≤ 65536 := by have := getV_in s; rw [hg] at this; exact this
  have hget : Hid (PS.stream_Get.f s = some (g1, g2, g3, g4, g5, g6, g7, g8)) := Lib.hid (by unfold PS.stream_Get.f; rw [PT.get_eq, hg])
  have hgets : ∀ w1 : World, Calls Try.prog 12 #[.string s] w1 fun e w' => ∃ v, e = .returned (.tuple #[.agg #[.int .i64 g1, .int .i64 g2, .int .i64 g3, .int .i64 g4, .string g5, .string g6, v], .int .i64 g8]) ∧ Kd.R Kd.string 9 w' w1.heap.size (fun _ => True) v g7 ∧ Below w1.heap.size w1 w' := by
    intro w1
    have := PT.gets_any s w1
    rw [hg] at this
    exact this
  obtain ⟨k1, k2, k3, k4, k5, k6, k7, k8, hk⟩ : ∃ k1 k2 k3 k4 k5 k6 k7 k8, PT.getV S = (k1, k2, k3, k4, k5, k6, k7, k8) := ⟨_, _, _, _, _, _, _, _, rfl⟩
  have hget2 : Hid (PS.stream_Get.f S = some (k1, k2, k3, k4, k5, k6, k7, k8)) := Lib.hid (by unfold PS.stream_Get.f; rw [PT.get_eq, hk])
  obtain ⟨T, hT⟩ : ∃ T : ByteArray, (if mayOk g1 g2 g3 g4 g5 g6 g7 = true then ⟨(putB g1 g2 g3 g4 g5 g6 g7).toArray⟩ else ⟨#[]⟩) = T := ⟨_, rfl⟩
  obtain ⟨F, hF⟩ : ∃ F : Int, (if mayOk g1 g2 g3 g4 g5 g6 g7 = true then 0 else 2300) = F := ⟨_, rfl⟩
  have hput2 : ∀ (B : Option Addr) (q : Nat) (w1 : World), Kd.C Kd.string w1 B g7.length g7 → g7.length ≤ q → Calls Try.prog 9 #[.agg #[.int .i64 g1, .int .i64 g2, .int .i64 g3, .int .i64 g4, .string g5, .string g6, .slice B g7.length q]] w1 fun e w' => e = .returned (.tuple #[.string T, .int .i64 F]) ∧ Below w1.heap.size w1 w' := by
    intro B q w1 h1 h2
    have := put_any g1 g2 g3 g4 g5 g6 g7 B q w1 h1 h2 (by omega)
    rwa [hT, hF] at this
  have hsame1 : Hid (PS.descantlaw0_SameStream.f 10000 g1 g2 g3 g4 g5 g6 g7 g1 g2 g3 g4 g5 g6 g7 = some true) := Lib.hid (by rw [PS.same_stream (by omega) (by omega)]; simp)
  obtain ⟨KL, hKL⟩ : ∃ KL, l.length < KL := ⟨_, Nat.lt_succ_self _⟩
  have hsame2 : Hid (PS.descantlaw0_SameStream.f KL c b z f hd tl l c b z f hd tl l = some true) := Lib.hid (by rw [PS.same_stream (by omega) hKL]; simp)
  -- what the last tests say
  have hend : (E = 0 ∧ S.size ≤ 65536 ∧ c = k1 ∧ b = k2 ∧ z = k3 ∧ f = k4 ∧ hd = k5 ∧ tl = k6 ∧ l = k7 ∧ k8 = 0) ∨ (E = 0 ∧ ¬ S.size ≤ 65536) ∨ E = 2300 := by
    by_cases hm : mayOk c b z f hd tl l = true
    · rw [if_pos hm] at hS hE
      by_cases hz : S.size ≤ 65536
      · have := back hm (s := S) (by rw [← hS]) hz
        rw [PT.get_eq, hk] at this
        simp only [Prod.mk.injEq] at this
        obtain ⟨e1, e2, e3, e4, e5, e6, e7, e8⟩ := this
        exact .inl ⟨hE.symm, hz, e1.symm, e2.symm, e3.symm, e4.symm, e5.symm, e6.symm, e7.symm, e8⟩
      · exact .inr (.inl ⟨hE.symm, hz⟩)
    · rw [if_neg hm] at hE
      exact .inr (.inr hE.symm)
  have hend2 : (g8 = 0 ∧ F = 0 ∧ s = T) ∨ g8 ≠ 0 := by
    by_cases h8 : g8 = 0
    · left
      subst h8
      obtain ⟨h1, h2⟩ := PT.got_put hg
      rw [if_pos h1] at hT hF
      exact ⟨rfl, hF.symm, by rw [← hT, h2]⟩
    · exact .inr h8
  replace hend := Lib.hid hend
  replace hend2 := Lib.hid hend2
  clear hS hE hT hF hg hk
  have hk7 : True := trivial
  have hC0 := hC
  clear hC
  go_enter Try.func3, Try.ntmps3
  go_wp2_with (first | ((with_reducible refine gate_dst (N := 2) rfl ?_); refine box_event ?hg (N := 2) ?hd (cs := #[.int .i64 c, .int .i64 b, .int .i64 z, .int .i64 f, .string hd, .string tl, .slice A l.length m]) (t := 26) ?hr ?_; (case hd => rfl); (case hg => rfl); (case hr => first | (go_simp; done) | (go_simp; rfl)); intro gx hgx w1 hbox hb; have hX : L.BC w1 gx 26 [.int .i64 c, .int .i64 b, .int .i64 z, .int .i64 f, .string hd, .string tl, .slice A l.length m] := ⟨hbox⟩; have hC := Kd.C_below hC0 hb; have hB := hb; have x0 := L.BC.at_ hX (o := 0) rfl; have x1 := L.BC.at_ hX (o := 1) rfl; have x2 := L.BC.at_ hX (o := 2) rfl; have x3 := L.BC.at_ hX (o := 3) rfl; have x4 := L.BC.at_ hX (o := 4) rfl; have x5 := L.BC.at_ hX (o := 5) rfl; have x6 := L.BC.at_ hX (o := 6) rfl; clear hbox hb hC0 hgx))
  refine (PT.descantlaw0_CopyStream.calls c b z f hd tl A m l c b z f hd tl l _ hC hm hcopy.out).mono ?_
  rintro e w2 ⟨vy, rfl, hYv, hb⟩
  obtain ⟨Ay, cy, ey_⟩ := Kd.R_slice hYv
  subst ey_
  have hYC := (Kd.R_reads' hYv).2.2
  have hYc := (Kd.R_reads' hYv).2.1
  replace hX := L.BC.below hX hb
  replace hC := Kd.C_below hC hb
  replace hB := L.below_next hB hb
  clear x0 x1 x2 x3 x4 x5 x6 hb hYv
  have hN := L.BC.new w2 zS 26
  have n0 := L.BC.at_ hN (o := 0) rfl; have n1 := L.BC.at_ hN (o := 1) rfl; have n2 := L.BC.at_ hN (o := 2) rfl; have n3 := L.BC.at_ hN (o := 3) rfl; have n4 := L.BC.at_ hN (o := 4) rfl; have n5 := L.BC.at_ hN (o := 5) rfl; have n6 := L.BC.at_ hN (o := 6) rfl
  have m0 := L.BC.frozen hN 0; have m1 := L.BC.frozen hN 1; have m2 := L.BC.frozen hN 2; have m3 := L.BC.frozen hN 3; have m4 := L.BC.frozen hN 4; have m5 := L.BC.frozen hN 5; have m6 := L.BC.frozen hN 6
  have hYB := L.BC.new w2 [.int .i64 c, .int .i64 b, .int .i64 z, .int .i64 f, .string hd, .string tl, .slice Ay l.length cy] 26
  have y0 := L.BC.at_ hYB (o := 0) rfl; have y1 := L.BC.at_ hYB (o := 1) rfl; have y2 := L.BC.at_ hYB (o := 2) rfl; have y3 := L.BC.at_ hYB (o := 3) rfl; have y4 := L.BC.at_ hYB (o := 4) rfl; have y5 := L.BC.at_ hYB (o := 5) rfl; have y6 := L.BC.at_ hYB (o := 6) rfl
  go_wp2_with (fail)
  clear n0 n1 n2 n3 n4 n5 n6 m0 m1 m2 m3 m4 m5 m6 hN y0 y1 y2 y3 y4 y5 y6
  replace hX := L.BC.alloc hX (.cells #[.int .i64 c, .int .i64 b, .int .i64 z, .int .i64 f, .string hd, .string tl, .slice Ay l.length cy] 26)
  replace hC := Kd.C_alloc hC (.cells #[.int .i64 c, .int .i64 b, .int .i64 z, .int .i64 f, .string hd, .string tl, .slice Ay l.length cy] 26)
  replace hYC := Kd.C_alloc hYC (.cells #[.int .i64 c, .int .i64 b, .int .i64 z, .int .i64 f, .string hd, .string tl, .slice Ay l.length cy] 26)
  replace hB := L.below_alloc hB (.cells #[.int .i64 c, .int .i64 b, .int .i64 z, .int .i64 f, .string hd, .string tl, .slice Ay l.length cy] 26)
  generalize w2.alloc (.cells #[.int .i64 c, .int .i64 b, .int .i64 z, .int .i64 f, .string hd, .string tl, .slice Ay l.length cy] 26) = w3 at hX hC hYC hB hYB ⊢
  generalize w2.heap.size = gy at *
  refine (hput Ay cy _ hYC hYc).mono ?_
  rintro e w4 ⟨rfl, hb⟩
  replace hX := L.BC.below hX hb
  replace hYB := L.BC.below hYB hb
  replace hC := Kd.C_below hC hb
  replace hYC := Kd.C_below hYC hb
  replace hB := L.below_next hB hb
  clear hb
  have x0 := L.BC.at_ hX (o := 0) rfl; have x1 := L.BC.at_ hX (o := 1) rfl; have x2 := L.BC.at_ hX (o := 2) rfl; have x3 := L.BC.at_ hX (o := 3) rfl; have x4 := L.BC.at_ hX (o := 4) rfl; have x5 := L.BC.at_ hX (o := 5) rfl; have x6 := L.BC.at_ hX (o := 6) rfl
  go_wp2_with (fail)
  refine (PU.descantref13_PutStream.calls 20000 c b z f hd tl A m l S E _ hC hm hputr.out).mono ?_
  rintro e w5 ⟨rfl, hb⟩
  replace hX := L.BC.below hX hb
  replace hYB := L.BC.below hYB hb
  replace hC := Kd.C_below hC hb
  replace hYC := Kd.C_below hYC hb
  replace hB := L.below_next hB hb
  clear hb x0 x1 x2 x3 x4 x5 x6
  go_wp2_with (fail)
  refine (PS.stream_Get.calls s g1 g2 g3 g4 g5 g6 g7 g8 _ hget.out).mono ?_
  rintro e w6 ⟨vc, rfl, hCR, hD⟩
  obtain ⟨Ac, cc, ey_⟩ := Kd.R_slice hCR
  subst ey_
  have hN := L.BC.new w6 zS 26
  have n0 := L.BC.at_ hN (o := 0) rfl; have n1 := L.BC.at_ hN (o := 1) rfl; have n2 := L.BC.at_ hN (o := 2) rfl; have n3 := L.BC.at_ hN (o := 3) rfl; have n4 := L.BC.at_ hN (o := 4) rfl; have n5 := L.BC.at_ hN (o := 5) rfl; have n6 := L.BC.at_ hN (o := 6) rfl
  have m0 := L.BC.frozen hN 0; have m1 := L.BC.frozen hN 1; have m2 := L.BC.frozen hN 2; have m3 := L.BC.frozen hN 3; have m4 := L.BC.frozen hN 4; have m5 := L.BC.frozen hN 5; have m6 := L.BC.frozen hN 6
  have hCB := L.BC.new w6 [.int .i64 g1, .int .i64 g2, .int .i64 g3, .int .i64 g4, .string g5, .string g6, .slice Ac g7.length cc] 26
  go_wp2_with (fail)
  clear n0 n1 n2 n3 n4 n5 n6 m0 m1 m2 m3 m4 m5 m6 hN
  replace hCR := Kd.R_alloc hCR (.cells #[.int .i64 g1, .int .i64 g2, .int .i64 g3, .int .i64 g4, .string g5, .string g6, .slice Ac g7.length cc] 26)
  replace hD := L.below_alloc hD (.cells #[.int .i64 g1, .int .i64 g2, .int .i64 g3, .int .i64 g4, .string g5, .string g6, .slice Ac g7.length cc] 26)
  generalize w6.alloc (.cells #[.int .i64 g1, .int .i64 g2, .int .i64 g3, .int .i64 g4, .string g5, .string g6, .slice Ac g7.length cc] 26) = w7 at hCR hD hCB ⊢
  generalize w6.heap.size = gc at *
  refine (hgets _).mono ?_
  rintro e w8 ⟨vd, rfl, hDv, hb⟩
  obtain ⟨Ad, cd, ey_⟩ := Kd.R_slice hDv
  subst ey_
  have hDC := (Kd.R_reads' hDv).2.2
  have hDc := (Kd.R_reads' hDv).2.1
  replace hCB := L.BC.below hCB hb
  replace hCR := Kd.R_below hCR hb
  replace hD := L.below_next hD hb
  clear hb hDv
  have hN := L.BC.new w8 zS 26
  have n0 := L.BC.at_ hN (o := 0) rfl; have n1 := L.BC.at_ hN (o := 1) rfl; have n2 := L.BC.at_ hN (o := 2) rfl; have n3 := L.BC.at_ hN (o := 3) rfl; have n4 := L.BC.at_ hN (o := 4) rfl; have n5 := L.BC.at_ hN (o := 5) rfl; have n6 := L.BC.at_ hN (o := 6) rfl
  have m0 := L.BC.frozen hN 0; have m1 := L.BC.frozen hN 1; have m2 := L.BC.frozen hN 2; have m3 := L.BC.frozen hN 3; have m4 := L.BC.frozen hN 4; have m5 := L.BC.frozen hN 5; have m6 := L.BC.frozen hN 6
  have hDB := L.BC.new w8 [.int .i64 g1, .int .i64 g2, .int .i64 g3, .int .i64 g4, .string g5, .string g6, .slice Ad g7.length cd] 26
  go_wp2_with (fail)
  clear n0 n1 n2 n3 n4 n5 n6 m0 m1 m2 m3 m4 m5 m6 hN
  replace hCB := L.BC.alloc hCB (.cells #[.int .i64 g1, .int .i64 g2, .int .i64 g3, .int .i64 g4, .string g5, .string g6, .slice Ad g7.length cd] 26)
  replace hCR := Kd.R_alloc hCR (.cells #[.int .i64 g1, .int .i64 g2, .int .i64 g3, .int .i64 g4, .string g5, .string g6, .slice Ad g7.length cd] 26)
  replace hDC := Kd.C_alloc hDC (.cells #[.int .i64 g1, .int .i64 g2, .int .i64 g3, .int .i64 g4, .string g5, .string g6, .slice Ad g7.length cd] 26)
  replace hD := L.below_alloc hD (.cells #[.int .i64 g1, .int .i64 g2, .int .i64 g3, .int .i64 g4, .string g5, .string g6, .slice Ad g7.length cd] 26)
  generalize w8.alloc (.cells #[.int .i64 g1, .int .i64 g2, .int .i64 g3, .int .i64 g4, .string g5, .string g6, .slice Ad g7.length cd] 26) = w9 at hCB hCR hDC hD hDB ⊢
  generalize w8.heap.size = gd at *
  refine (PS.stream_Get.calls S k1 k2 k3 k4 k5 k6 k7 k8 _ hget2.out).mono ?_
  rintro e w10 ⟨vz, rfl, hZv, hb⟩
  obtain ⟨Az, cz, ey_⟩ := Kd.R_slice hZv
  subst ey_
  have hZC := (Kd.R_reads' hZv).2.2
  have hZc := (Kd.R_reads' hZv).2.1
  replace hCB := L.BC.below hCB hb
  replace hCR := Kd.R_below hCR hb
  replace hDB := L.BC.below hDB hb
  replace hDC := Kd.C_below hDC hb
  replace hD := L.below_next hD hb
  clear hb hZv
  have hN := L.BC.new w10 zS 26
  have n0 := L.BC.at_ hN (o := 0) rfl; have n1 := L.BC.at_ hN (o := 1) rfl; have n2 := L.BC.at_ hN (o := 2) rfl; have n3 := L.BC.at_ hN (o := 3) rfl; have n4 := L.BC.at_ hN (o := 4) rfl; have n5 := L.BC.at_ hN (o := 5) rfl; have n6 := L.BC.at_ hN (o := 6) rfl
  have m0 := L.BC.frozen hN 0; have m1 := L.BC.frozen hN 1; have m2 := L.BC.frozen hN 2; have m3 := L.BC.frozen hN 3; have m4 := L.BC.frozen hN 4; have m5 := L.BC.frozen hN 5; have m6 := L.BC.frozen hN 6
  have hZB := L.BC.new w10 [.int .i64 k1, .int .i64 k2, .int .i64 k3, .int .i64 k4, .string k5, .string k6, .slice Az k7.length cz] 26
  have hCB2 := L.BC.alloc hCB (.cells #[.int .i64 k1, .int .i64 k2, .int .i64 k3, .int .i64 k4, .string k5, .string k6, .slice Az k7.length cz] 26)
  have c0 := L.BC.at_ hCB2 (o := 0) rfl; have c1 := L.BC.at_ hCB2 (o := 1) rfl; have c2 := L.BC.at_ hCB2 (o := 2) rfl; have c3 := L.BC.at_ hCB2 (o := 3) rfl; have c4 := L.BC.at_ hCB2 (o := 4) rfl; have c5 := L.BC.at_ hCB2 (o := 5) rfl; have c6 := L.BC.at_ hCB2 (o := 6) rfl
  go_wp2_with (fail)
  clear n0 n1 n2 n3 n4 n5 n6 m0 m1 m2 m3 m4 m5 m6 hN hCB2 c0 c1 c2 c3 c4 c5 c6
  replace hCB := L.BC.alloc hCB (.cells #[.int .i64 k1, .int .i64 k2, .int .i64 k3, .int .i64 k4, .string k5, .string k6, .slice Az k7.length cz] 26)
  replace hCR := Kd.R_alloc hCR (.cells #[.int .i64 k1, .int .i64 k2, .int .i64 k3, .int .i64 k4, .string k5, .string k6, .slice Az k7.length cz] 26)
  replace hDB := L.BC.alloc hDB (.cells #[.int .i64 k1, .int .i64 k2, .int .i64 k3, .int .i64 k4, .string k5, .string k6, .slice Az k7.length cz] 26)
  replace hDC := Kd.C_alloc hDC (.cells #[.int .i64 k1, .int .i64 k2, .int .i64 k3, .int .i64 k4, .string k5, .string k6, .slice Az k7.length cz] 26)
  replace hZC := Kd.C_alloc hZC (.cells #[.int .i64 k1, .int .i64 k2, .int .i64 k3, .int .i64 k4, .string k5, .string k6, .slice Az k7.length cz] 26)
  replace hD := L.below_alloc hD (.cells #[.int .i64 k1, .int .i64 k2, .int .i64 k3, .int .i64 k4, .string k5, .string k6, .slice Az k7.length cz] 26)
  generalize w10.alloc (.cells #[.int .i64 k1, .int .i64 k2, .int .i64 k3, .int .i64 k4, .string k5, .string k6, .slice Az k7.length cz] 26) = w11 at hCB hCR hDB hDC hZB hZC hD ⊢
  generalize w10.heap.size = gz at *
  refine (hput2 Ac cc _ (Kd.R_reads' hCR).2.2 (Kd.R_reads' hCR).2.1).mono ?_
  rintro e w12 ⟨rfl, hb⟩
  replace hCB := L.BC.below hCB hb
  replace hCR := Kd.R_below hCR hb
  replace hDB := L.BC.below hDB hb
  replace hDC := Kd.C_below hDC hb
  replace hZB := L.BC.below hZB hb
  replace hZC := Kd.C_below hZC hb
  replace hD := L.below_next hD hb
  clear hb
  have c0 := L.BC.at_ hCB (o := 0) rfl; have c1 := L.BC.at_ hCB (o := 1) rfl; have c2 := L.BC.at_ hCB (o := 2) rfl; have c3 := L.BC.at_ hCB (o := 3) rfl; have c4 := L.BC.at_ hCB (o := 4) rfl; have c5 := L.BC.at_ hCB (o := 5) rfl; have c6 := L.BC.at_ hCB (o := 6) rfl
  have d0 := L.BC.at_ hDB (o := 0) rfl; have d1 := L.BC.at_ hDB (o := 1) rfl; have d2 := L.BC.at_ hDB (o := 2) rfl; have d3 := L.BC.at_ hDB (o := 3) rfl; have d4 := L.BC.at_ hDB (o := 4) rfl; have d5 := L.BC.at_ hDB (o := 5) rfl; have d6 := L.BC.at_ hDB (o := 6) rfl
  go_wp2_with (first | (go_at_call 13; refine (num_is _ _).mono ?_; rintro e w_ ⟨rfl, rfl⟩))
  refine (PS.descantlaw0_SameStream.calls 10000 g1 g2 g3 g4 g5 g6 Ac cc g7 g1 g2 g3 g4 g5 g6 Ad cd g7 true _ (Kd.R_reads' hCR).2.2 (Kd.R_reads' hCR).2.1 hDC hDc hsame1.out).mono ?_
  rintro e w13 ⟨rfl, hb⟩
  replace hCB := L.BC.below hCB hb
  replace hCR := Kd.R_below hCR hb
  replace hDB := L.BC.below hDB hb
  replace hDC := Kd.C_below hDC hb
  replace hZB := L.BC.below hZB hb
  replace hZC := Kd.C_below hZC hb
  replace hD := L.below_next hD hb
  clear hb c0 c1 c2 c3 c4 c5 c6 d0 d1 d2 d3 d4 d5 d6
  have hXn := L.BC.below hX hD
  have hCn := Kd.C_below hC hD
  have x0 := L.BC.at_ hXn (o := 0) rfl; have x1 := L.BC.at_ hXn (o := 1) rfl; have x2 := L.BC.at_ hXn (o := 2) rfl; have x3 := L.BC.at_ hXn (o := 3) rfl; have x4 := L.BC.at_ hXn (o := 4) rfl; have x5 := L.BC.at_ hXn (o := 5) rfl; have x6 := L.BC.at_ hXn (o := 6) rfl
  have z0 := L.BC.at_ hZB (o := 0) rfl; have z1 := L.BC.at_ hZB (o := 1) rfl; have z2 := L.BC.at_ hZB (o := 2) rfl; have z3 := L.BC.at_ hZB (o := 3) rfl; have z4 := L.BC.at_ hZB (o := 4) rfl; have z5 := L.BC.at_ hZB (o := 5) rfl; have z6 := L.BC.at_ hZB (o := 6) rfl
  have c0 := L.BC.at_ hCB (o := 0) rfl; have c1 := L.BC.at_ hCB (o := 1) rfl; have c2 := L.BC.at_ hCB (o := 2) rfl; have c3 := L.BC.at_ hCB (o := 3) rfl; have c4 := L.BC.at_ hCB (o := 4) rfl; have c5 := L.BC.at_ hCB (o := 5) rfl; have c6 := L.BC.at_ hCB (o := 6) rfl
  rcases hend.out with ⟨rfl, hz, rfl, rfl, rfl, rfl, rfl, rfl, rfl, rfl⟩ | ⟨rfl, hz⟩ | rfl
  · have hzd : decide ((S.size : Int) ≤ 65536) = true := decide_eq_true (by omega)
    rcases hend2.out with ⟨rfl, rfl, rfl⟩ | h8
    all_goals (first | have h8b : (g8 == 0) = false := by simpa using h8 | skip)
    all_goals go_wp2_with (first | (go_at_call 13; refine (num_is _ _).mono ?_; rintro e w_ ⟨rfl, rfl⟩))
    all_goals
      refine (PS.descantlaw0_SameStream.calls KL c b z f hd tl Az cz l c b z f hd tl A m l true _ hZC hZc hCn hm hsame2.out).mono ?_
      rintro e w14 ⟨rfl, hb⟩
      replace hCB := L.BC.below hCB hb
      replace hCR := Kd.R_below hCR hb
      replace hD := L.below_next hD hb
      clear hb c0 c1 c2 c3 c4 c5 c6
      have c0 := L.BC.at_ hCB (o := 0) rfl; have c1 := L.BC.at_ hCB (o := 1) rfl; have c2 := L.BC.at_ hCB (o := 2) rfl; have c3 := L.BC.at_ hCB (o := 3) rfl; have c4 := L.BC.at_ hCB (o := 4) rfl; have c5 := L.BC.at_ hCB (o := 5) rfl; have c6 := L.BC.at_ hCB (o := 6) rfl
      go_wp2_with (first | (go_at_call 13; refine (num_is _ _).mono ?_; rintro e w_ ⟨rfl, rfl⟩))
    all_goals
      refine (spoil_any Ac cc g7 _ w5.heap.size hCR hD.size (by omega) (fun x hx => Nat.le_trans (hg7z x hx) (by decide))).mono ?_
      rintro e w20 ⟨rfl, hb⟩
      have hD2 := Below.trans hD hb
      have hX2 := L.BC.below hX hD2
      have hY2 := L.BC.below hYB hD2
      have hC2 := Kd.C_below hC hD2
      have hYC2 := Kd.C_below hYC hD2
      have xx0 := L.BC.at_ hX2 (o := 0) rfl; have xx1 := L.BC.at_ hX2 (o := 1) rfl; have xx2 := L.BC.at_ hX2 (o := 2) rfl; have xx3 := L.BC.at_ hX2 (o := 3) rfl; have xx4 := L.BC.at_ hX2 (o := 4) rfl; have xx5 := L.BC.at_ hX2 (o := 5) rfl; have xx6 := L.BC.at_ hX2 (o := 6) rfl
      have yy0 := L.BC.at_ hY2 (o := 0) rfl; have yy1 := L.BC.at_ hY2 (o := 1) rfl; have yy2 := L.BC.at_ hY2 (o := 2) rfl; have yy3 := L.BC.at_ hY2 (o := 3) rfl; have yy4 := L.BC.at_ hY2 (o := 4) rfl; have yy5 := L.BC.at_ hY2 (o := 5) rfl; have yy6 := L.BC.at_ hY2 (o := 6) rfl
      go_wp2_with (fail)
      refine (PS.descantlaw0_SameStream.calls KL c b z f hd tl Ay cy l c b z f hd tl A m l true _ hYC2 hYc hC2 hm hsame2.out).mono ?_
      rintro e w21 ⟨rfl, hb21⟩
      go_wp2_with (fail)
      refine (PS.awake_calls _).mono ?_
      rintro e w22 ⟨rfl, hb22⟩
      go_wp2_with (fail)
      go_ret
      exact ⟨rfl, L.below_next hB (L.below_next (L.below_next hD2 hb21) hb22)⟩
  · have hzd : decide ((S.size : Int) ≤ 65536) = false := decide_eq_false (by omega)
    rcases hend2.out with ⟨rfl, rfl, rfl⟩ | h8
    all_goals (first | have h8b : (g8 == 0) = false := by simpa using h8 | skip)
    all_goals go_wp2_with (first | (go_at_call 13; refine (num_is _ _).mono ?_; rintro e w_ ⟨rfl, rfl⟩))
    all_goals
      refine (spoil_any Ac cc g7 _ w5.heap.size hCR hD.size (by omega) (fun x hx => Nat.le_trans (hg7z x hx) (by decide))).mono ?_
      rintro e w20 ⟨rfl, hb⟩
      have hD2 := Below.trans hD hb
      have hX2 := L.BC.below hX hD2
      have hY2 := L.BC.below hYB hD2
      have hC2 := Kd.C_below hC hD2
      have hYC2 := Kd.C_below hYC hD2
      have xx0 := L.BC.at_ hX2 (o := 0) rfl; have xx1 := L.BC.at_ hX2 (o := 1) rfl; have xx2 := L.BC.at_ hX2 (o := 2) rfl; have xx3 := L.BC.at_ hX2 (o := 3) rfl; have xx4 := L.BC.at_ hX2 (o := 4) rfl; have xx5 := L.BC.at_ hX2 (o := 5) rfl; have xx6 := L.BC.at_ hX2 (o := 6) rfl
      have yy0 := L.BC.at_ hY2 (o := 0) rfl; have yy1 := L.BC.at_ hY2 (o := 1) rfl; have yy2 := L.BC.at_ hY2 (o := 2) rfl; have yy3 := L.BC.at_ hY2 (o := 3) rfl; have yy4 := L.BC.at_ hY2 (o := 4) rfl; have yy5 := L.BC.at_ hY2 (o := 5) rfl; have yy6 := L.BC.at_ hY2 (o := 6) rfl
      go_wp2_with (fail)
      refine (PS.descantlaw0_SameStream.calls KL c b z f hd tl Ay cy l c b z f hd tl A m l true _ hYC2 hYc hC2 hm hsame2.out).mono ?_
      rintro e w21 ⟨rfl, hb21⟩
      go_wp2_with (fail)
      refine (PS.awake_calls _).mono ?_
      rintro e w22 ⟨rfl, hb22⟩
      go_wp2_with (fail)
      go_ret
      exact ⟨rfl, L.below_next hB (L.below_next (L.below_next hD2 hb21) hb22)⟩
  · have hzd : True := trivial
    rcases hend2.out with ⟨rfl, rfl, rfl⟩ | h8
    all_goals (first | have h8b : (g8 == 0) = false := by simpa using h8 | skip)
    all_goals go_wp2_with (first | (go_at_call 13; refine (num_is _ _).mono ?_; rintro e w_ ⟨rfl, rfl⟩))
    all_goals
      refine (spoil_any Ac cc g7 _ w5.heap.size hCR hD.size (by omega) (fun x hx => Nat.le_trans (hg7z x hx) (by decide))).mono ?_
      rintro e w20 ⟨rfl, hb⟩
      have hD2 := Below.trans hD hb
      have hX2 := L.BC.below hX hD2
      have hY2 := L.BC.below hYB hD2
      have hC2 := Kd.C_below hC hD2
      have hYC2 := Kd.C_below hYC hD2
      have xx0 := L.BC.at_ hX2 (o := 0) rfl; have xx1 := L.BC.at_ hX2 (o := 1) rfl; have xx2 := L.BC.at_ hX2 (o := 2) rfl; have xx3 := L.BC.at_ hX2 (o := 3) rfl; have xx4 := L.BC.at_ hX2 (o := 4) rfl; have xx5 := L.BC.at_ hX2 (o := 5) rfl; have xx6 := L.BC.at_ hX2 (o := 6) rfl
      have yy0 := L.BC.at_ hY2 (o := 0) rfl; have yy1 := L.BC.at_ hY2 (o := 1) rfl; have yy2 := L.BC.at_ hY2 (o := 2) rfl; have yy3 := L.BC.at_ hY2 (o := 3) rfl; have yy4 := L.BC.at_ hY2 (o := 4) rfl; have yy5 := L.BC.at_ hY2 (o := 5) rfl; have yy6 := L.BC.at_ hY2 (o := 6) rfl
      go_wp2_with (fail)
      refine (PS.descantlaw0_SameStream.calls KL c b z f hd tl Ay cy l c b z f hd tl A m l true _ hYC2 hYc hC2 hm hsame2.out).mono ?_
      rintro e w21 ⟨rfl, hb21⟩
      go_wp2_with (fail)
      refine (PS.awake_calls _).mono ?_
      rintro e w22 ⟨rfl, hb22⟩
      go_wp2_with (fail)
      go_ret
      exact ⟨rfl, L.below_next hB (L.below_next (L.below_next hD2 hb21) hb22)⟩
end Go.Proofs.Ytokegkpbbhegpaa
/- Streams: the row: any stream, any text: Put and Get as the document's, back and forth, and nothing of the arguments is changed. For every input that can be read. -/
namespace Go.Proofs.Ytokegkpbbhegpaa.streams
open Go.ChangeShapes Go.WideShapes Go.ChangeAt Go.RowKit
open Go.ChangeMaps (open_string shut_string)
set_option linter.unusedVariables false
theorem own : ownKnob Try.prog.godebug = none := by kernel_rfl
theorem laidOut : laidOutB Try.prog = true := by kernel_rfl
set_option maxRecDepth 100000 in
theorem lifted (os : Os) (started : os.Started) (H : Type) (enc : TypeId × Value → H) :
    ReturnsInHanded {} Try.checked os 3 .any (Rows.streamsSpec.pre6 enc Try.prog Try.f3 Rows.streamsRow.domain false) (Rows.streamsSpec.post enc Try.prog Try.f3 false true false false) := by
  refine returnsInHanded_of_change_sized (C := Try.checked) own started (by kernel_rfl) Try.func3
    (ChangeSpec.witness6 (enc := enc) (C := Try.checked) false ⟨#[], #[.agg #[.int .i64 0, .int .i64 0, .int .i64 0, .int .i64 0, .string ByteArray.empty, .string ByteArray.empty, .slice none 0 0], .string ByteArray.empty], []⟩ 8 (by kernel_rfl) (by kernel_rfl) (by kernel_rfl) (by kernel_rfl)) ?_
  intro W base args ds gs before hval0 hW hcnd hsz0 _
  have hsz : (DataW.weightsEach Try.prog (Try.f3.params.toList ++ Rows.streamsSpec.plain.varTypes Try.prog) (ds ++ gs)).all (· ≤ reachBytes) = true := hsz0
  have hval : ∀ (j : Nat) t v, Try.f3.params[j]? = some t → args[j]? = some v → Value.okWide Try.prog W .any base t v := hval0
  have hW' := hW
  obtain ⟨p, q, hA0, hV, rfl, hfz, hnd⟩ := hW
  have hA : DataW.TrodAll enc Try.prog W 0 (fun _ => true) true Try.f3.params.toList args.toList ds p := hA0
  rw [Try.params3] at hA hval hsz
  obtain ⟨v0, vs0, d0, ds0, p0, q0, hargs, rfl, rfl, h0, r0⟩ := trodAll_cons hA
  obtain ⟨v1, vs1, d1, ds1, p1, q1, rfl, rfl, rfl, h1, r1⟩ := trodAll_cons r0
  obtain ⟨rfl, rfl, rfl⟩ := trodAll_nil r1
  obtain rfl : args = #[v0, v1] := by cases args; simp_all
  obtain ⟨rfl, rfl⟩ := trodVars_none hV
  have k0 := h0
  have lt0 : ∀ x ∈ p0, x.block < W.heap.size := by obtain ⟨m, hm⟩ := k0; exact DataW.trod_lt m _ _ _ hm
  have hz0 : ∀ n ∈ d0.weights Try.prog 26, n ≤ reachBytes := fun n hn => by
    have := List.all_eq_true.1 hsz n (DataW.weights_mem_each (j := 0) (t := 26) (d := d0) rfl rfl n hn)
    simpa using this
  obtain ⟨c, b, z, f, hd, tl, A, l, m, rfl, hC, hm, hl⟩ := open_stream (hval 0 26 v0 rfl rfl) h0 hz0
  obtain ⟨a1, rfl, rfl, rfl, y1⟩ := open_string Try.underlying9 (hval 1 9 v1 rfl rfl) h1
  clear hA0 hval0 hsz0 hsz
  refine (streams_walk c b z f hd tl A l m a1 W hC hm hl).mono fun e W' ⟨he, bel⟩ => ?_
  subst he
  exact ⟨_, rfl, _, _, _, [], _, [], hW', trodAll_mk1 (shut_bool Try.underlying4 _), (trodAll_cons_mk (Below.trod laidOut (by kernel_rfl) (of_decide_eq_true (by kernel_rfl)) k0 bel lt0) (trodAll_cons_mk (shut_string Try.underlying9 y1) trodAll_mk0)), rfl, bel.frame _, fun h => by cases h⟩
theorem over : Rows.streamsRow.holds Try.pinned (OpenSpec.ofChange Rows.streamsSpec) :=
  OpenClaim.holds_of_wide 3 Try.f3 rfl rfl rfl rfl rfl rfl rfl ⟨rfl, rfl, rfl, rfl, rfl⟩ rfl rfl rfl rfl rfl (by kernel_rfl) Try.func3 (by kernel_rfl)
    (of_decide_eq_true (by kernel_rfl)) (by unfold Func.isWrapper; first | (rw [if_pos (by decide +kernel)]; kernel_rfl) | (rw [if_neg (by decide +kernel)]; exact ⟨rfl, rfl⟩))
    (fun os started H enc _ => lifted os started H enc)
theorem proved : Rows.StreamsSaid := over
#print axioms proved
end Go.Proofs.Ytokegkpbbhegpaa.streams
namespace Go.Proofs.Ytokegkpbbhegpaa
/-- The row, under a short name, for the claim. -/
theorem streams_holds : Rows.StreamsSaid := streams.proved
end Go.Proofs.Ytokegkpbbhegpaa
