/- Printed for this claim by the session's program (the kit's printer, several laws in one place): the functions that the law reaches, each as a plain Lean function, and the proof that the Go code comes to its answers. Conditions: none beside those that each theorem states. -/
import Derived.Test.YtbgheffgkncpgaaXx0
import Derived.Test.YtbgheffgkncpgaaWAll
namespace Go.Proofs.Ytbgheffgkncpgaa.X
open Go.RowKit Go.Proofs.YtbgheffgkncpgaaW.PrintWords Go.Proofs.YtbgheffgkncpgaaW.PrintLast Go.Proofs.YtbgheffgkncpgaaW.PrintStep Go.Proofs.YtbgheffgkncpgaaW.PrintMore
attribute [local go_sem] max2_int min2_int max_two min_two max_three min_three max_four min_four   -- for this text's walks alone
set_option linter.unusedVariables false
set_option linter.unusedSimpArgs false

/-! ### spec_l2Block: function 37 -/
def spec_l2Block.l0 : Nat → ByteArray → ByteArray → List Int → Int → Option (ByteArray)
 | 0, _, _, _, _ => none
 | k + 1, x0, x1, x5, x6 => if x6 < (x0.size : Int) then (if 0 ≤ x6 then (if x6 < (x1.size : Int) then (if x5.length < 140737488355328 then (spec_l2Block.l0 k x0 x1 (x5 ++ [Go.bits .xor .u8 (bt x0 x6) (bt x1 x6)]) (wrap64 (x6 + 1))) else (none)) else (none)) else (none)) else (some (strOfNums x5))
def spec_l2Block.f (k : Nat) (a0 : ByteArray) (a1 : ByteArray) : Option (ByteArray) := spec_l2Block.l0 k a0 a1 (([] : List Int)) 0
theorem spec_l2Block.mono_l : ∀ k, (∀ y0 y1 y2 y3, LeO (spec_l2Block.l0 k y0 y1 y2 y3) (spec_l2Block.l0 (k + 1) y0 y1 y2 y3))
 | 0 => fun _ _ _ _ r h => by simp [spec_l2Block.l0] at h
 | k + 1 => by
  have ih0 := spec_l2Block.mono_l k
  ·intro y0 y1 y2 y3
   unfold spec_l2Block.l0
   repeat' first
   | (with_reducible exact ih0 _ _ _ _)
   | (with_reducible exact LeO.refl _)
   | (with_reducible exact LeO.none _)
   | (with_reducible refine LeO.ite ?_ ?_)
   | (with_reducible refine LeO.bind ?_ (fun _ => ?_))
   | exact ih0 _ _ _ _
   | exact LeO.none _
   | refine LeO.ite ?_ ?_
   | refine LeO.bind ?_ (fun _ => ?_)
theorem spec_l2Block.mono : ∀ a0 a1 k, LeO (spec_l2Block.f k a0 a1) (spec_l2Block.f (k + 1) a0 a1) := by
 intro a0 a1 k
 have ih0 := spec_l2Block.mono_l k
 unfold spec_l2Block.f
 repeat' first
  | (with_reducible exact ih0 _ _ _ _)
  | (with_reducible exact LeO.refl _)
  | (with_reducible exact LeO.none _)
  | (with_reducible refine LeO.ite ?_ ?_)
  | (with_reducible refine LeO.bind ?_ (fun _ => ?_))
  | exact ih0 _ _ _ _
  | exact LeO.none _
  | refine LeO.ite ?_ ?_
  | refine LeO.bind ?_ (fun _ => ?_)
def spec_l2Block.T5 : Bool × List (List Nat × List Nat) := (true, [([], []), ([], []), ([], []), ([1, 2], [1, 2]), ([], []), ([], []), ([4, 5], [4, 5]), ([3, 6], [3, 6]), ([7], [7]), ([0, 8], [0, 8]), ([9, 9, 0, 1, 2, 3, 4, 5, 6, 7, 8, 9], [0, 9])])
def spec_l2Block.B5 : List Nat := [0, 0, 0, 6, 0, 0, 48, 126, 254, 511, 1023]
theorem spec_l2Block.tab5 : rtab .any (opsOf Try.f37 5) = spec_l2Block.T5 := by kernel_rfl
theorem spec_l2Block.bits5 : waitsOk spec_l2Block.T5.2 spec_l2Block.B5 = true := by kernel_rfl
set_option maxHeartbeats 8000000 in
set_option maxRecDepth 100000 in
theorem spec_l2Block.calls (k : Nat) (a0 : ByteArray) (a1 : ByteArray) (r : ByteArray) (w : World) (h : spec_l2Block.f k a0 a1 = some r) :
 Calls Try.prog 37 #[.string a0, .string a1] w fun e w' => e = .returned (.string r) ∧ Below w.heap.size w w' := by
 have HB := Aside0.mk (Below.refl w.heap.size w)
 have H : (spec_l2Block.l0 k a0 a1 (([] : List Int)) 0) = some r := h
 clear h
 obtain ⟨y101, hy101⟩ : ∃ y_ : List Int, y_ = (([] : List Int)) := ⟨_, rfl⟩
 replace H : (spec_l2Block.l0 k a0 a1 y101 0) = some r := by first | (rw [hy101]; with_reducible exact H) | (have H2_ := (Option.bind_some _ _).symm.trans H; rw [hy101]; with_reducible exact H2_) | (have H2_ := (Option.bind_some _ _).symm.trans H; with_reducible exact H2_) | with_reducible exact H | (rw [hy101]; exact H) | exact H
 have Ny101 := Aside0.mk hy101
 clear hy101
 have H' := Aside0.mk H
 clear H
 go_enter Try.func37, Try.ntmps37
 go_wp2_with (first | ((with_reducible refine gate_dst (N := 7) rfl ?_); refine Kd.R_lit (Kd.int .u8) _ 5 ?hg (N := 7) ?hd (xs := ([] : List Int)) (inner := []) (ok := fun _ => True) (okp := fun _ => True) ?hr ?hp (fun _ hk => hk) trivial (Below.refl _ _) (Nat.le_refl _) (by simp) ?_; (case hd => rfl); (case hg => rfl); (case hr => first | (go_simp; done) | (go_simp; rfl)); (case hp => exact (Reps.none _ _)); intro v102 w3 ho4 hb hg_ hnew_; clear hg_ hnew_; (first | rw [← Ny101.out] at ho4 | (simp only [Int.reduceToNat] at ho4; rw [← Ny101.out] at ho4)); have n0_ := Aside0.mk (Kd.R_lower ho4 (below_size (gB HB.out))); have n1_ := Aside0.mk (below_step (gB HB.out) hb); clear HB; have HO103 := n0_; have HB := n1_; clear n0_ n1_; clear hb ho4))
 go_loopg [5, 6] k (fun kq v5 v6 w' => ∃ (x5_1 : List Int) (x6_1 : Int), v6 = .int .i64 x6_1 ∧ Aside0 (spec_l2Block.l0 kq a0 a1 x5_1 x6_1 = some r) ∧ Aside0 (kq ≤ k) ∧ Aside0 (Kd.R (Kd.int .u8) 5 w' w.heap.size (fun _ => True) v5 x5_1) ∧ Aside0 (Below w.heap.size w w'))
 case atStart => exact ⟨(y101), (0), (by first | rfl | (simp; done) | (simp [*]; done) | (simp [wrap64]; done)), H', ⟨Nat.le_refl _⟩, ⟨by (with_reducible repeat (first | apply Kd.R_alloc | apply Kd.R_drewN | apply Kd.R_drew)); exact HO103.out⟩, ⟨by repeat (first | (with_reducible first | exact HB.out | apply below_alloc | apply pw_below_drewN | apply below_drew1) | exact HB.out)⟩⟩
 case round =>
  clear H'
  try clear p2
  try clear c3
  obtain ⟨x5_1, x6_1, rfl, HA, HK1, HO_5, HB⟩ := hrel
  cases gk with
  | zero => exact absurd HA.out (by simp [spec_l2Block.l0])
  | succ k1 =>
   have H := HA.out
   clear HA
   simp only [spec_l2Block.l0] at H
   by_cases c5 : x6_1 < (a0.size : Int)
   ·rw [if_pos c5] at H
    have c5b0 : decide (x6_1 < (a0.size : Int)) = true := decide_eq_true c5
    clear c5
    by_cases c6 : 0 ≤ x6_1
    ·rw [if_pos c6] at H
     have c6b0 : decide (0 ≤ x6_1) = true := decide_eq_true c6
     clear c6
     by_cases c8 : x6_1 < (a1.size : Int)
     ·rw [if_pos c8] at H
      have c8b0 : decide (x6_1 < (a1.size : Int)) = true := decide_eq_true c8
      clear c8
      by_cases c10 : x5_1.length < 140737488355328
      ·rw [if_pos c10] at H
       have LMc10 := Aside0.mk c10
       clear c10
       obtain ⟨y104, hy104⟩ : ∃ y_ : List Int, y_ = (x5_1 ++ [Go.bits .xor .u8 (bt a0 x6_1) (bt a1 x6_1)]) := ⟨_, rfl⟩
       replace H : (spec_l2Block.l0 k1 a0 a1 y104 (wrap64 (x6_1 + 1))) = some r := by first | (rw [hy104]; with_reducible exact H) | (have H2_ := (Option.bind_some _ _).symm.trans H; rw [hy104]; with_reducible exact H2_) | (have H2_ := (Option.bind_some _ _).symm.trans H; with_reducible exact H2_) | with_reducible exact H | (rw [hy104]; exact H) | exact H
       have Ny104 := Aside0.mk hy104
       clear hy104
       have H' := Aside0.mk H
       clear H
       try go_wp2
       have n0_ := Aside0.mk (Kd.R_drew HO_5.out)
       have n1_ := Aside0.mk (below_drew1 HB.out)
       clear HO_5
       clear HB
       have HO_5 := n0_
       have HB := n1_
       clear n0_ n1_
       have p7 : 0 ≤ (x6_1 : Int) := of_decide_eq_true (by first | (with_reducible assumption) | assumption)
       have q7 : x6_1 < (a0.size : Int) := of_decide_eq_true (by first | (with_reducible assumption) | assumption)
       have hx7 := bt_at a0 x6_1
       replace p7 := eq_true p7
       replace q7 := eq_true q7
       have p9 : 0 ≤ (x6_1 : Int) := of_decide_eq_true (by first | (with_reducible assumption) | assumption)
       have q9 : x6_1 < (a1.size : Int) := of_decide_eq_true (by first | (with_reducible assumption) | assumption)
       have hx9 := bt_at a1 x6_1
       replace p9 := eq_true p9
       replace q9 := eq_true q9
       refine start_ (n := 11) (S := fun w' => True) (ds := []) (.replicate 11 false) (by kernel_rfl) rfl rfl trivial (fun hHeld => ?_); refine with_tabW spec_l2Block.tab5 spec_l2Block.bits5 (fun HT_ HW_ => ?_)
       generalize wr.drew = w11 at HO_5 HB hHeld ⊢
       refine pu_ 0 (some 14) (bv 11 1) rfl rfl (any_of HT_.out (by kernel_rfl)) (fun _ _ _ h => h) (by rfl) (fun w' => by go_simp; with_reducible rfl) (by simp only [Act.put, eA_, e0_, eS_, i64_w, i32_w]; rfl) ?_
       refine pu_ 1 (some 15) (bv 11 3) rfl rfl (any_of HT_.out (by kernel_rfl)) (fun _ _ _ h => h) (by rfl) (fun w' => by go_simp; with_reducible rfl) (by simp only [Act.put, eA_, e0_, eS_, i64_w, i32_w]; rfl) ?_
       refine pu_ 2 (some 16) (bv 11 7) rfl rfl (any_of HT_.out (by kernel_rfl)) (fun _ _ _ h => h) (by rfl) (fun w' => by go_simp; with_reducible rfl) (by simp only [Act.put, eA_, e0_, eS_, i64_w, i32_w]; rfl) ?_
       refine pu_ 4 (some 18) (bv 11 23) rfl rfl (any_of HT_.out (by kernel_rfl)) (fun _ _ _ h => h) (by rfl) (fun w' => by go_simp; with_reducible rfl) (by simp only [Act.put, eA_, e0_, eS_, i64_w, i32_w]; rfl) ?_
       refine pu_ 5 (some 19) (bv 11 55) rfl rfl (any_of HT_.out (by kernel_rfl)) (fun _ _ _ h => h) (by rfl) (fun w' => by go_simp; with_reducible rfl) (by simp only [Act.put, eA_, e0_, eS_, i64_w, i32_w]; rfl) ?_
       refine tk_ 3 (some 17) (bv 11 63) rfl rfl (take_ofW HT_.out HW_.out (by kernel_rfl)) (fun _ _ _ h => h) (by rfl) hHeld (fun w' _ => by go_simp; with_reducible rfl) (by simp only [Act.put, eA_, e0_, eS_, i64_w, i32_w]; rfl) ?_
       refine tk_ 6 (some 20) (bv 11 127) rfl rfl (take_ofW HT_.out HW_.out (by kernel_rfl)) (fun _ _ _ h => h) (by rfl) hHeld (fun w' _ => by go_simp; with_reducible rfl) (by simp only [Act.put, eA_, e0_, eS_, i64_w, i32_w]; rfl) ?_
       refine pu_ 7 (some 21) (bv 11 255) rfl rfl (any_of HT_.out (by kernel_rfl)) (fun _ _ _ h => h) (by rfl) (fun w' => by go_simp; with_reducible rfl) (by simp only [Act.put, eA_, e0_, eS_, i64_w, i32_w]; rfl) ?_
       refine one_ (i := 8) (N := some 22) (bv 11 511) rfl rfl (one_of HT_.out (by kernel_rfl)) (by decide) (fun K hK => ?_)
       refine value_ (w1 := ?_) (v := ?_) (by rfl) rfl ?_ ?_
       rotate_left 2
       ·go_simp
        constructor
        ·rfl
        ·rfl
       refine hK.out _ _ trivial (fun hHeld => ?_)
       clear hK K
       refine norm_ (a' := ?_) ?_ ?_
       rotate_left
       ·show Act.put _ (some 22) _ = _
        simp only [Act.put, eA_, e0_, eS_, i64_w, i32_w]
        rfl
       refine one_ (i := 9) (N := some 23) (bv 11 1023) rfl rfl (one_of HT_.out (by kernel_rfl)) (by decide) (fun K hK => ?_)
       refine Kd.R_append_step (Kd.int .u8) (w0 := w) w.heap.size (by rfl) (.tmp 14) (.tmp 22) 25 5 (.int .u8 0) 1 rfl Try.underlying25 info5 rfl (by decide) (by omega) u5 x5_1 (Go.bits .xor .u8 (bt a0 x6_1) (bt a1 x6_1)) [.int .u8 (Go.bits .xor .u8 (bt a0 x6_1) (bt a1 x6_1))] (fun _ => True) (fun _ => False) rfl rfl ?aP (fun _ hk => hk.elim) ?aF ?aO ?aB ?aS ?aL ?_
       (case aP => exact rfl)
       (case aB => exact (gB HB.out))
       (case aF => exact (fun _ _ => trivial))
       (case aO => exact (gR HO_5.out))
       (case aS => exact (below_size (gB HB.out)))
       (case aL => have := LMc10.out; omega)
       intro v105 w12 ho hb hg hat
       rw [← Ny104.out] at ho
       have n0_ := Aside0.mk (hb)
       have n1_ := Aside0.mk (ho)
       clear HB
       clear HO_5
       have HB := n0_
       have HO106 := n1_
       clear n0_ n1_
       clear ho hb hg hat
       refine hK.out _ _ trivial (fun hHeld => ?_)
       clear hK K
       refine norm_ (a' := ?_) ?_ ?_
       rotate_left
       ·show Act.put _ (some 23) _ = _
        simp only [Act.put, eA_, e0_, eS_, i64_w, i32_w]
        rfl
       refine pu_ 10 (some 5) (bv 11 2047) rfl rfl (any_of HT_.out (by kernel_rfl)) (fun _ _ _ h => h) (by rfl) (fun w' => by go_simp; with_reducible rfl) (by simp only [Act.put, eA_, e0_, eS_, i64_w, i32_w]; rfl) ?_
       refine done_ (done_of HT_.out (by kernel_rfl)) ?_
       try go_wp2
       go_roundg k1
       case measure => have := HK1.out; omega
       case rel => exact ⟨(y104), (wrap64 (x6_1 + 1)), (by first | rfl | (simp; done) | (simp [*]; done) | (simp [wrap64]; done)), H', ⟨by have := HK1.out; omega⟩, ⟨by (with_reducible repeat (first | apply Kd.R_alloc | apply Kd.R_drewN | apply Kd.R_drew)); exact HO106.out⟩, ⟨by repeat (first | (with_reducible first | exact HB.out | apply below_alloc | apply pw_below_drewN | apply below_drew1) | exact HB.out)⟩⟩
      ·rw [if_neg c10] at H
       exact absurd H (by simp)
     ·rw [if_neg c8] at H
      exact absurd H (by simp)
    ·rw [if_neg c6] at H
     exact absurd H (by simp)
   ·rw [if_neg c5] at H
    have c5b0 : decide (x6_1 < (a0.size : Int)) = false := decide_eq_false c5
    clear c5
    obtain rfl := Option.some.inj H
    have hcv13 := own_string (P := Try.prog) Try.underlying25 Try.underlying5 Try.underlying9 (Kd.own_of_R HO_5.out)
    go_wp2
    go_ret
    exact ⟨by first | rfl | (simp [errW_none, errW_some] <;> rfl) | (simp [*, errW_none, errW_some] <;> rfl), by repeat (first | (with_reducible first | exact HB.out | apply below_alloc | apply pw_below_drewN | apply below_drew1) | exact HB.out)⟩

/-! ### impl_xor: function 38 (by hand) -/
/-- Byte j of a text. -/
def bA (a : ByteArray) (j : Nat) : Nat := (a.data.toList.getD j 0).toNat
/-- Two texts, byte on byte. -/
def xorB (a b : ByteArray) : ByteArray := ⟨(List.zipWith (· ^^^ ·) a.data.toList b.data.toList).toArray⟩
def impl_xor.f (a0 a1 : ByteArray) : Option ByteArray := if a0.size ≤ a1.size ∧ a0.size ≤ 9223372036854775807 then some (xorB a0 a1) else none
theorem xorB_size (a b : ByteArray) (h : a.size ≤ b.size) : (xorB a b).size = a.size := by
 show (List.zipWith (· ^^^ ·) a.data.toList b.data.toList).length = a.data.size
 have h' : a.data.size ≤ b.data.size := h
 rw [List.length_zipWith, Array.length_toList, Array.length_toList, Nat.min_eq_left h']
theorem bA_get (a : ByteArray) (j : Nat) (h : j < a.size) : bA a j = a[j].toNat := by
 unfold bA
 have h' : j < a.data.toList.length := by simpa using h
 rw [List.getD_eq_getElem?_getD, List.getElem?_eq_getElem h']
 rfl
theorem bA_xorB (a b : ByteArray) (j : Nat) (h : j < a.size) (hs : a.size ≤ b.size) : bA (xorB a b) j = bA a j ^^^ bA b j := by
 have ha : j < a.data.toList.length := by simpa using h
 have hb : j < b.data.toList.length := by
  have e : b.data.toList.length = b.size := Array.length_toList
  omega
 unfold bA xorB
 simp only [List.getD_eq_getElem?_getD, List.getElem?_zipWith, List.getElem?_eq_getElem ha, List.getElem?_eq_getElem hb]
 exact UInt8.toNat_xor _ _
theorem bA_lt (a : ByteArray) (j : Nat) : bA a j < 256 := by
 unfold bA
 exact UInt8.toNat_lt _
theorem xor8 (a b : Nat) (ha : a < 256) (hb : b < 256) : Go.bits .xor .u8 (a : Int) (b : Int) = ((a ^^^ b : Nat) : Int) := by
 have hc : a ^^^ b < 2 ^ 8 := Nat.xor_lt_two_pow ha hb
 simp only [Go.bits, BitVec.ofInt_natCast, BitVec.toNat_xor, BitVec.toNat_ofNat]
 rw [Nat.mod_eq_of_lt (show a < 2 ^ IntKind.u8.bits from ha), Nat.mod_eq_of_lt (show b < 2 ^ IntKind.u8.bits from hb)]
 rw [IntKind.wrap_u8]
 omega
set_option maxHeartbeats 4000000 in
set_option maxRecDepth 100000 in
theorem impl_xor.calls (a0 a1 r : ByteArray) (w : World) (h : impl_xor.f a0 a1 = some r) : Calls Try.prog 38 #[.string a0, .string a1] w fun e w' => e = .returned (.string r) ∧ Below w.heap.size w w' := by
 have hh : (a0.size ≤ a1.size ∧ a0.size ≤ 9223372036854775807) ∧ r = xorB a0 a1 := by
  unfold impl_xor.f at h
  split at h
  ·exact ⟨by assumption, (Option.some.inj h).symm⟩
  ·cases h
 obtain ⟨⟨hs, hm⟩, hr⟩ := hh
 clear h
 subst hr
 have hconv := Go.Lib.run_convert_string_bytes (P := Try.prog) w 9 25 5 a0 Try.underlying9 Try.underlying25 Try.underlying5
 go_enter Try.func38, Try.ntmps38
 go_wp2
 have hcell : ∀ j, j < a0.size → (Go.Lib.bytesWorld w 5 a0).cell? ⟨w.heap.size, j, none⟩ = some (.int .u8 (bA a0 j)) := fun j hj => Go.Lib.bytesWorld_cell w 5 a0 j hj
 have hsz := Go.Lib.bytesWorld_size w 5 a0
 have hfrz : ∀ j, j < a0.size → (Go.Lib.bytesWorld w 5 a0).frozen? ⟨w.heap.size, j, none⟩ = false := fun j hj => by
  have hsz : (Go.Lib.bytesCells w 5 a0).size = a0.size + (grownCap w a0.size 0 5 - a0.size) := by
   unfold Go.Lib.bytesCells
   rw [Array.size_append, Array.size_map, Array.size_replicate]
   rfl
  simp only [World.frozen?, Go.Lib.bytesWorld_at_new]
  simp
  omega
 have hbel : Below w.heap.size w (Go.Lib.bytesWorld w 5 a0) := ⟨rfl, rfl, rfl, by rw [Go.Lib.bytesWorld_size]; omega, fun j hj => Go.Lib.bytesWorld_at_old w 5 a0 j hj⟩
 clear hconv
 generalize Go.Lib.bytesWorld w 5 a0 = wb at *
 generalize grownCap w a0.size 0 5 = cap at *
 have hfz : ∀ j, j < a0.size → wb.frozen? ⟨w.heap.size, j, none⟩ = false := hfrz
 clear hfrz
 go_loopg [6, 11] a0.size (fun q v6 v11 w' => ∃ k : Nat, v11 = .int .i64 (k : Int) ∧ k + q = a0.size ∧ (∀ j, j < a0.size → w'.cell? ⟨w.heap.size, j, none⟩ = some (.int .u8 ((if j < k then bA a0 j ^^^ bA a1 j else bA a0 j : Nat)))) ∧ (∀ j, j < a0.size → w'.frozen? ⟨w.heap.size, j, none⟩ = false) ∧ Aside0 (Below w.heap.size w w'))
 case atStart => exact ⟨0, rfl, by omega, fun j hj => by simpa using hcell j hj, hfz, ⟨hbel⟩⟩
 case round =>
  obtain ⟨k, rfl, hk, hC, hF, HB⟩ := hrel
  by_cases hlt : k < a0.size
  ·have hd : decide ((k : Int) < (a0.size : Int)) = true := decide_eq_true (by omega)
   have hc1 := hC k hlt
   rw [if_neg (Nat.lt_irrefl _)] at hc1
   have hf1 := hF k hlt
   go_wp2
   have hk1 : k < a1.size := by omega
   go_region
   rw [← bA_get a1 k hk1, xor8 _ _ (bA_lt _ _) (bA_lt _ _)]
   go_wp2
   cases gk with
   | zero => omega
   | succ q =>
    go_roundg q
    case measure => omega
    case rel =>
     refine ⟨k + 1, ?_, by omega, ?_, ?_, ⟨?_⟩⟩
     ·congr 1
     ·intro j hj
      rw [show ∀ (W : World) (p : Addr), W.drew.cell? p = W.cell? p from fun _ _ => rfl]
      by_cases e : j = k
      ·subst e
       rw [if_pos (by omega)]
       exact World.cell?_setCell_same _ _ _ hc1
      ·rw [World.cell?_setCell_other _ _ _ _ (fun h => e (by injection h with _ h2 _; exact h2.symm)), hC j hj]
       by_cases e2 : j < k
       ·rw [if_pos e2, if_pos (by omega)]
       ·rw [if_neg e2, if_neg (by omega)]
     ·intro j hj
      exact (World.frozen?_setCell _ _ _ _).trans (hF j hj)
     ·exact (HB.out.setCell (Nat.le_refl _) _).drew
  ·have hd : decide ((k : Int) < (a0.size : Int)) = false := decide_eq_false (by omega)
   have hback : (convert 25 9 (.slice (some ⟨w.heap.size, 0, none⟩) a0.size cap)).run Try.prog wr = .ok (.string (xorB a0 a1)) wr := by
    have := Go.Lib.run_convert_whole (P := Try.prog) wr 25 5 9 Try.underlying25 Try.underlying5 Try.underlying9 w.heap.size 0 (xorB a0 a1) (fun i hi => by
     have hi' : i < a0.size := by rw [xorB_size _ _ hs] at hi; exact hi
     rw [Nat.zero_add, hC i hi', if_pos (by omega), ← bA_xorB a0 a1 i hi' hs, bA_get _ _ hi]) cap
    rw [xorB_size _ _ hs] at this
    exact this
   go_wp2
   go_ret
   exact ⟨rfl, HB.out⟩

end Go.Proofs.Ytbgheffgkncpgaa.X
