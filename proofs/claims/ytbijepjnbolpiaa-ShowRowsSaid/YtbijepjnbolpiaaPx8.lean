/- Written by a program of this session: the functions that the laws reach, what each comes to, and each law as it is stated, for every input. No condition. -/
import Derived.Test.YtbijepjnbolpiaaPx0
import Derived.Test.YtbijepjnbolpiaaPx6
import Derived.Test.YtbijepjnbolpiaaPx7
namespace Go.Proofs.Ytbijepjnbolpiaa.P
open Go.RowKit Go.Proofs.YtbijepjnbolpiaaW.PrintWords Go.Proofs.YtbijepjnbolpiaaW.PrintLast Go.Proofs.YtbijepjnbolpiaaW.PrintMore
attribute [local go_sem] max2_int min2_int max_two min_two max_three min_three max_four min_four   -- for this text's walks alone
set_option linter.unusedVariables false
set_option linter.unusedSimpArgs false
def triglyphref02_Put.l0 : Nat → Int → Int → List Int → Int → Option (List Int)
 | 0, _, _, _, _ => none
 | k + 1, x0, x3, x4, x5 => if x5 > 0 then (if 0 ≤ x5 then (if x5 < (x4.length : Int) then (triglyphref02_Put.l0 k (wrap64 (Int.tdiv x0 64)) x3 (x4.set (x5 : Int).toNat ((wrap64 (128 + (Int.tmod x0 64))) % 256)) (wrap64 (x5 - 1))) else (none)) else (none)) else (if x3 = 1 then (if 0 < (x4.length : Int) then (some (x4.set (0 : Int).toNat ((x0) % 256))) else (none)) else (if x3 = 2 then (if 0 < (x4.length : Int) then (some (x4.set (0 : Int).toNat ((wrap64 (192 + x0)) % 256))) else (none)) else (if x3 = 3 then (if 0 < (x4.length : Int) then (some (x4.set (0 : Int).toNat ((wrap64 (224 + x0)) % 256))) else (none)) else (if 0 < (x4.length : Int) then (some (x4.set (0 : Int).toNat ((wrap64 (240 + x0)) % 256))) else (none)))))
def triglyphref02_Put.f (k : Nat) (a0 : Int) : Option (List Int) := (triglyphref02_width.f a0).bind fun t289 => (if 0 ≤ t289 then (if (t289 : Int).toNat ≤ 281474976710656 then (triglyphref02_Put.l0 k a0 t289 (List.replicate (t289 : Int).toNat 0) (wrap64 (t289 - 1))) else (none)) else (none))
theorem triglyphref02_Put.mono_l : ∀ k, (∀ y0 y1 y2 y3, LeO (triglyphref02_Put.l0 k y0 y1 y2 y3) (triglyphref02_Put.l0 (k + 1) y0 y1 y2 y3))
 | 0 => fun _ _ _ _ r h => by simp [triglyphref02_Put.l0] at h
 | k + 1 => by
  have ih0 := triglyphref02_Put.mono_l k
  ·intro y0 y1 y2 y3
   unfold triglyphref02_Put.l0
   repeat' first
   | (with_reducible exact ih0 _ _ _ _)
   | (with_reducible exact LeO.refl _)
   | (with_reducible exact LeO.none _)
   | (with_reducible refine LeO.ite ?_ ?_)
   | (with_reducible refine LeO.bind ?_ (fun _ => ?_))
theorem triglyphref02_Put.mono : ∀ a0 k, LeO (triglyphref02_Put.f k a0) (triglyphref02_Put.f (k + 1) a0) := by
 intro a0 k
 have ih0 := triglyphref02_Put.mono_l k
 unfold triglyphref02_Put.f
 repeat' first
   | (with_reducible exact ih0 _ _ _ _)
   | (with_reducible exact LeO.refl _)
   | (with_reducible exact LeO.none _)
   | (with_reducible refine LeO.ite ?_ ?_)
   | (with_reducible refine LeO.bind ?_ (fun _ => ?_))
set_option maxHeartbeats 8000000 in
set_option maxRecDepth 100000 in
theorem triglyphref02_Put.calls (k : Nat) (a0 : Int) (r : List Int) (w : World) (h : triglyphref02_Put.f k a0 = some r) :
  Calls Try.prog 39 #[.int .i64 a0] w fun e w' => ∃ v0_ : Value, e = .returned (v0_) ∧ Kd.R (Kd.int .u8) 5 w' w.heap.size (fun _ => True) v0_ r ∧ Below w.heap.size w w' := by
 have HB := gA (Below.refl w.heap.size w)
 have H : ((triglyphref02_width.f a0).bind fun t289 => (if 0 ≤ t289 then (if (t289 : Int).toNat ≤ 281474976710656 then (triglyphref02_Put.l0 k a0 t289 (List.replicate (t289 : Int).toNat 0) (wrap64 (t289 - 1))) else (none)) else (none))) = some r := h
 clear h
 replace H := Option.bind_eq_some_iff.mp H
 obtain ⟨t289, A20, H⟩ := H
 replace H : (if 0 ≤ t289 then (if (t289 : Int).toNat ≤ 281474976710656 then (triglyphref02_Put.l0 k a0 t289 (List.replicate (t289 : Int).toNat 0) (wrap64 (t289 - 1))) else (none)) else (none)) = some r := H
 have A2 := gA A20
 clear A20
 obtain ⟨c3, H⟩ := iS H
 have c3b0 := eq_true c3
 have c3b1 := decide_eq_true c3
 clear c3
 obtain ⟨c4, H⟩ := iS H
 have c4b0 := eq_true c4
 have c4b1 := decide_eq_true c4
 clear c4
 obtain ⟨y290, hy290⟩ : ∃ y_ : List Int, y_ = (List.replicate (t289 : Int).toNat 0) := ⟨_, rfl⟩
 replace H : (triglyphref02_Put.l0 k a0 t289 y290 (wrap64 (t289 - 1))) = some r := by first | (rw [hy290]; with_reducible exact H) | (have H2_ := (Option.bind_some _ _).symm.trans H; rw [hy290]; with_reducible exact H2_) | (have H2_ := (Option.bind_some _ _).symm.trans H; with_reducible exact H2_) | with_reducible exact H | (rw [hy290]; exact H) | exact H
 have Ny290 := gA hy290
 clear hy290
 have H' := gA H
 clear H
 go_enter Try.func39, Try.ntmps39
 go_wp2_with (first | ((with_reducible refine gate_callee (f := 50) rfl ?_); refine goesL_ (some 7) rfl rfl Try.func50 (by kernel_rfl) rfl #[.int .i64 a0] rfl (by (try simp only [List.map_toArray, List.map_cons, List.map_nil]); first | done | rfl | (simp only [List.length_drop, List.length_take]; rfl)) ?_; (with_reducible refine (triglyphref02_width.calls a0 t289 _ A2.out).mono ?_); rintro e w' ⟨rfl, ⟨nd, rfl⟩⟩; refine ⟨_, rfl, ?_⟩) | ((with_reducible refine gate_dst (N := 9) rfl ?_); refine Kd.R_make (Kd.int .u8) _ 5 rfl (N := 9) rfl 56 _ _ rfl t289 rfl rfl Try.underlying56 (.int .u8 0) 1 info5 rfl (by decide) (by omega) 0 (ok := fun _ => True) (okp := fun _ => True) rfl (fun _ hk => hk) trivial (of_decide_eq_true (by assumption)) (Nat.le_trans (Nat.mul_le_mul_right _ (of_decide_eq_true (by assumption) : t289.toNat ≤ 281474976710656)) (by omega)) (Below.refl _ _) (Nat.le_refl _) ?_; intro v291 w5 ho6 hb hg_ hnew_; clear hg_ hnew_; (first | rw [← Ny290.out] at ho6 | (simp only [Int.reduceToNat] at ho6; rw [← Ny290.out] at ho6)); have HO292 := gA (Kd.R_lower ho6 (below_size (gB HB))); replace HB := gA (below_step (gB HB) hb); clear hb ho6))
 go_loopg [0, 5] k (fun kq v0 v5 w' => ∃ (x0_1 : Int) (x4_1 : List Int) (x5_1 : Int), v0 = .int .i64 x0_1 ∧ v5 = .int .i64 x5_1 ∧ Aside0 (triglyphref02_Put.l0 kq x0_1 t289 x4_1 x5_1 = some r) ∧ Aside0 (kq ≤ k) ∧ Aside0 (Kd.R (Kd.int .u8) 5 w' w.heap.size (fun _ => True) v291 x4_1) ∧ Aside0 (Below w.heap.size w w'))
 case atStart => exact ⟨(a0), (y290), (wrap64 (t289 - 1)), (rfl), (rfl), H', ⟨Nat.le_refl _⟩, ⟨gR HO292⟩, ⟨gB HB⟩⟩
 case round =>
  clear H'
  try clear p2
  try clear c3
  try clear c3b0
  try clear c3b1
  try clear c4
  try clear c4b0
  try clear c4b1
  try clear c5
  try clear p6
  obtain ⟨x0_1, x4_1, x5_1, rfl, rfl, HA, HK1, HO_4, HB⟩ := hrel
  cases gk with
  | zero => exact absurd HA.out (by simp [triglyphref02_Put.l0])
  | succ k1 =>
   have H := HA.out; clear HA
   simp only [triglyphref02_Put.l0] at H
   by_cases c7 : x5_1 > 0
   ·rw [if_pos c7] at H
    have c7b0 : decide (0 < x5_1) = true := decide_eq_true c7
    clear c7
    obtain ⟨c8, H⟩ := iS H
    have c8b0 := decide_eq_true c8
    clear c8
    obtain ⟨c9, H⟩ := iS H
    have c9b0 := decide_eq_true c9
    clear c9
    obtain ⟨y293, hy293⟩ : ∃ y_ : List Int, y_ = (x4_1.set (x5_1 : Int).toNat ((wrap64 (128 + (Int.tmod x0_1 64))) % 256)) := ⟨_, rfl⟩
    replace H : (triglyphref02_Put.l0 k1 (wrap64 (Int.tdiv x0_1 64)) t289 y293 (wrap64 (x5_1 - 1))) = some r := by first | (rw [hy293]; with_reducible exact H) | (have H2_ := (Option.bind_some _ _).symm.trans H; rw [hy293]; with_reducible exact H2_) | (have H2_ := (Option.bind_some _ _).symm.trans H; with_reducible exact H2_) | with_reducible exact H | (rw [hy293]; exact H) | exact H
    have Ny293 := gA hy293
    clear hy293
    have H' := gA H
    clear H
    have p10 : 0 ≤ (x5_1 : Int) := of_decide_eq_true (by assumption)
    have q10 : (x5_1 : Int) < ((x4_1.length : Int) : Int) := of_decide_eq_true (by assumption)
    obtain ⟨go10, co10, eo10, gb10, gl10, cl10, HG10⟩ := Kd.R_form HO_4.out (by omega)
    (first | cases eo10 | (injection eo10 with ea_ en_ ec_; (first | subst ea_ | (injection ea_ with ea_; subst ea_)); subst ec_; clear en_))
    have GB10 := gA gb10
    have GG10 := gA HG10
    clear gb10 gl10 HG10
    obtain ⟨hx10_0, hf10_0⟩ := Kd.R_celln 0 HO_4.out (x5_1 : Int) p10 q10
    replace p10 := eq_true p10
    replace q10 := eq_true q10
    have HP11 := Kd.R_putg HO_4.out (x5_1 : Int) ((wrap64 (128 + (Int.tmod x0_1 64))) % 256)
    go_wp2_with (first | ((with_reducible refine gate_store (t := 5) (p := 22) rfl ?_); refine store_event (t := 5) (p := 22) (v := ?vo_w12) (w1 := (wr.setCell ⟨go10, (x5_1 : Int).toNat, none⟩ (.int .u8 ((wrap64 (128 + (Int.tmod x0_1 64))) % 256)))) ?hg ?ho ?hn ?hr ?_; (case ho => rfl); (case hg => rfl); (case hn => rfl); (case hr => first | (go_simp; done) | (go_simp; rfl)); intro w12 hw; have hg : wr.grownBy w12 (some go10) := (by rw [hw]; exact HP11.2); have hp_ : Kd.R (Kd.int .u8) 5 w12 w.heap.size (fun _ => True) (.slice (some ⟨go10, 0, none⟩) x4_1.length co10) y293 := (by rw [hw, Ny293.out]; exact HP11.1); clear HP11; replace HO_4 := gA (hp_); replace HB := gA ((by rw [hw]; exact below_set (HB.out) GB10.out : Below w.heap.size w w12)); clear hg hw hp_))
    go_roundg k1
    case measure => have := HK1.out; omega
    case rel => exact ⟨(wrap64 (Int.tdiv x0_1 64)), (y293), (wrap64 (x5_1 - 1)), (rfl), (rfl), H', ⟨by have := HK1.out; omega⟩, ⟨gR HO_4⟩, ⟨gB HB⟩⟩
   ·rw [if_neg c7] at H
    have c7b0 : decide (0 < x5_1) = false := decide_eq_false c7
    clear c7
    by_cases c13 : t289 = 1
    ·rw [if_pos c13] at H
     have c13b0 : (t289 == 1) = true := beq_iff_eq.mpr c13
     have c13b1 : (t289 != 1) = false := bne_eq_false_iff_eq.mpr c13
     clear c13
     obtain ⟨c14, H⟩ := iS H
     have c14b0 := decide_eq_true c14
     have c14b1 : decide (0 < x4_1.length) = true := decide_eq_true (by omega)
     clear c14
     obtain ⟨y294, hy294⟩ : ∃ y_ : List Int, y_ = (x4_1.set (0 : Int).toNat ((x0_1) % 256)) := ⟨_, rfl⟩
     replace H : (some y294) = some r := by first | (rw [hy294]; with_reducible exact H) | (have H2_ := (Option.bind_some _ _).symm.trans H; rw [hy294]; with_reducible exact H2_) | (have H2_ := (Option.bind_some _ _).symm.trans H; with_reducible exact H2_) | with_reducible exact H | (rw [hy294]; exact H) | exact H
     have Ny294 := gA hy294
     clear hy294
     obtain rfl := Option.some.inj H
     have p15 : 0 ≤ (0 : Int) := (by omega)
     have q15 : (0 : Int) < ((x4_1.length : Int) : Int) := of_decide_eq_true (by assumption)
     have qi15 : (0 < x4_1.length) = True := eq_true (by omega)
     obtain ⟨go15, co15, eo15, gb15, gl15, cl15, HG15⟩ := Kd.R_form HO_4.out (by omega)
     (first | cases eo15 | (injection eo15 with ea_ en_ ec_; (first | subst ea_ | (injection ea_ with ea_; subst ea_)); subst ec_; clear en_))
     have GB15 := gA gb15
     have GG15 := gA HG15
     clear gb15 gl15 HG15
     obtain ⟨hx15_0, hf15_0⟩ := Kd.R_celln 0 HO_4.out (0 : Int) p15 q15
     (try rw [show ((0 : Int)).toNat = 0 from rfl] at hx15_0)
     (try simp only [Nat.reduceMul, Nat.zero_mul, Nat.zero_add, Nat.reduceAdd] at hx15_0)
     (try rw [show ((0 : Int)).toNat = 0 from rfl] at hf15_0)
     (try simp only [Nat.reduceMul, Nat.zero_mul, Nat.zero_add, Nat.reduceAdd] at hf15_0)
     replace p15 := eq_true p15
     replace q15 := eq_true q15
     have HP16 := Kd.R_putg HO_4.out (0 : Int) ((x0_1) % 256)
     go_wp2_with (first | ((with_reducible refine gate_store (t := 5) (p := 36) rfl ?_); refine store_event (t := 5) (p := 36) (v := ?vo_w17) (w1 := (wr.setCell ⟨go15, (0 : Int).toNat, none⟩ (.int .u8 ((x0_1) % 256)))) ?hg ?ho ?hn ?hr ?_; (case ho => rfl); (case hg => rfl); (case hn => rfl); (case hr => first | (go_simp; done) | (go_simp; rfl)); intro w17 hw; have hg : wr.grownBy w17 (some go15) := (by rw [hw]; exact HP16.2); have hp_ : Kd.R (Kd.int .u8) 5 w17 w.heap.size (fun _ => True) (.slice (some ⟨go15, 0, none⟩) x4_1.length co15) y294 := (by rw [hw, Ny294.out]; exact HP16.1); clear HP16; replace HO_4 := gA (hp_); replace HB := gA ((by rw [hw]; exact below_set (HB.out) GB15.out : Below w.heap.size w w17)); clear hg hw hp_))
     go_ret
     exact ⟨_, rfl, gR HO_4, gB HB⟩
    ·rw [if_neg c13] at H
     have c13b0 : (t289 == 1) = false := beq_eq_false_iff_ne.mpr c13
     have c13b1 : (t289 != 1) = true := bne_iff_ne.mpr c13
     by_cases c18 : t289 = 2
     ·rw [if_pos c18] at H
      have c18b0 : (t289 == 2) = true := beq_iff_eq.mpr c18
      have c18b1 : (t289 != 2) = false := bne_eq_false_iff_eq.mpr c18
      clear c18
      obtain ⟨c19, H⟩ := iS H
      have c19b0 := decide_eq_true c19
      have c19b1 : decide (0 < x4_1.length) = true := decide_eq_true (by omega)
      clear c19
      obtain ⟨y295, hy295⟩ : ∃ y_ : List Int, y_ = (x4_1.set (0 : Int).toNat ((wrap64 (192 + x0_1)) % 256)) := ⟨_, rfl⟩
      replace H : (some y295) = some r := by first | (rw [hy295]; with_reducible exact H) | (have H2_ := (Option.bind_some _ _).symm.trans H; rw [hy295]; with_reducible exact H2_) | (have H2_ := (Option.bind_some _ _).symm.trans H; with_reducible exact H2_) | with_reducible exact H | (rw [hy295]; exact H) | exact H
      have Ny295 := gA hy295
      clear hy295
      obtain rfl := Option.some.inj H
      have p20 : 0 ≤ (0 : Int) := (by omega)
      have q20 : (0 : Int) < ((x4_1.length : Int) : Int) := of_decide_eq_true (by assumption)
      have qi20 : (0 < x4_1.length) = True := eq_true (by omega)
      obtain ⟨go20, co20, eo20, gb20, gl20, cl20, HG20⟩ := Kd.R_form HO_4.out (by omega)
      (first | cases eo20 | (injection eo20 with ea_ en_ ec_; (first | subst ea_ | (injection ea_ with ea_; subst ea_)); subst ec_; clear en_))
      have GB20 := gA gb20
      have GG20 := gA HG20
      clear gb20 gl20 HG20
      obtain ⟨hx20_0, hf20_0⟩ := Kd.R_celln 0 HO_4.out (0 : Int) p20 q20
      (try rw [show ((0 : Int)).toNat = 0 from rfl] at hx20_0)
      (try simp only [Nat.reduceMul, Nat.zero_mul, Nat.zero_add, Nat.reduceAdd] at hx20_0)
      (try rw [show ((0 : Int)).toNat = 0 from rfl] at hf20_0)
      (try simp only [Nat.reduceMul, Nat.zero_mul, Nat.zero_add, Nat.reduceAdd] at hf20_0)
      replace p20 := eq_true p20
      replace q20 := eq_true q20
      have HP21 := Kd.R_putg HO_4.out (0 : Int) ((wrap64 (192 + x0_1)) % 256)
      go_wp2_with (first | ((with_reducible refine gate_store (t := 5) (p := 43) rfl ?_); refine store_event (t := 5) (p := 43) (v := ?vo_w22) (w1 := (wr.setCell ⟨go20, (0 : Int).toNat, none⟩ (.int .u8 ((wrap64 (192 + x0_1)) % 256)))) ?hg ?ho ?hn ?hr ?_; (case ho => rfl); (case hg => rfl); (case hn => rfl); (case hr => first | (go_simp; done) | (go_simp; rfl)); intro w22 hw; have hg : wr.grownBy w22 (some go20) := (by rw [hw]; exact HP21.2); have hp_ : Kd.R (Kd.int .u8) 5 w22 w.heap.size (fun _ => True) (.slice (some ⟨go20, 0, none⟩) x4_1.length co20) y295 := (by rw [hw, Ny295.out]; exact HP21.1); clear HP21; replace HO_4 := gA (hp_); replace HB := gA ((by rw [hw]; exact below_set (HB.out) GB20.out : Below w.heap.size w w22)); clear hg hw hp_))
      go_ret
      exact ⟨_, rfl, gR HO_4, gB HB⟩
     ·rw [if_neg c18] at H
      have c18b0 : (t289 == 2) = false := beq_eq_false_iff_ne.mpr c18
      have c18b1 : (t289 != 2) = true := bne_iff_ne.mpr c18
      by_cases c23 : t289 = 3
      ·rw [if_pos c23] at H
       have c23b0 : (t289 == 3) = true := beq_iff_eq.mpr c23
       have c23b1 : (t289 != 3) = false := bne_eq_false_iff_eq.mpr c23
       clear c23
       obtain ⟨c24, H⟩ := iS H
       have c24b0 := decide_eq_true c24
       have c24b1 : decide (0 < x4_1.length) = true := decide_eq_true (by omega)
       clear c24
       obtain ⟨y296, hy296⟩ : ∃ y_ : List Int, y_ = (x4_1.set (0 : Int).toNat ((wrap64 (224 + x0_1)) % 256)) := ⟨_, rfl⟩
       replace H : (some y296) = some r := by first | (rw [hy296]; with_reducible exact H) | (have H2_ := (Option.bind_some _ _).symm.trans H; rw [hy296]; with_reducible exact H2_) | (have H2_ := (Option.bind_some _ _).symm.trans H; with_reducible exact H2_) | with_reducible exact H | (rw [hy296]; exact H) | exact H
       have Ny296 := gA hy296
       clear hy296
       obtain rfl := Option.some.inj H
       have p25 : 0 ≤ (0 : Int) := (by omega)
       have q25 : (0 : Int) < ((x4_1.length : Int) : Int) := of_decide_eq_true (by assumption)
       have qi25 : (0 < x4_1.length) = True := eq_true (by omega)
       obtain ⟨go25, co25, eo25, gb25, gl25, cl25, HG25⟩ := Kd.R_form HO_4.out (by omega)
       (first | cases eo25 | (injection eo25 with ea_ en_ ec_; (first | subst ea_ | (injection ea_ with ea_; subst ea_)); subst ec_; clear en_))
       have GB25 := gA gb25
       have GG25 := gA HG25
       clear gb25 gl25 HG25
       obtain ⟨hx25_0, hf25_0⟩ := Kd.R_celln 0 HO_4.out (0 : Int) p25 q25
       (try rw [show ((0 : Int)).toNat = 0 from rfl] at hx25_0)
       (try simp only [Nat.reduceMul, Nat.zero_mul, Nat.zero_add, Nat.reduceAdd] at hx25_0)
       (try rw [show ((0 : Int)).toNat = 0 from rfl] at hf25_0)
       (try simp only [Nat.reduceMul, Nat.zero_mul, Nat.zero_add, Nat.reduceAdd] at hf25_0)
       replace p25 := eq_true p25
       replace q25 := eq_true q25
       have HP26 := Kd.R_putg HO_4.out (0 : Int) ((wrap64 (224 + x0_1)) % 256)
       go_wp2_with (first | ((with_reducible refine gate_store (t := 5) (p := 50) rfl ?_); refine store_event (t := 5) (p := 50) (v := ?vo_w27) (w1 := (wr.setCell ⟨go25, (0 : Int).toNat, none⟩ (.int .u8 ((wrap64 (224 + x0_1)) % 256)))) ?hg ?ho ?hn ?hr ?_; (case ho => rfl); (case hg => rfl); (case hn => rfl); (case hr => first | (go_simp; done) | (go_simp; rfl)); intro w27 hw; have hg : wr.grownBy w27 (some go25) := (by rw [hw]; exact HP26.2); have hp_ : Kd.R (Kd.int .u8) 5 w27 w.heap.size (fun _ => True) (.slice (some ⟨go25, 0, none⟩) x4_1.length co25) y296 := (by rw [hw, Ny296.out]; exact HP26.1); clear HP26; replace HO_4 := gA (hp_); replace HB := gA ((by rw [hw]; exact below_set (HB.out) GB25.out : Below w.heap.size w w27)); clear hg hw hp_))
       go_ret
       exact ⟨_, rfl, gR HO_4, gB HB⟩
      ·rw [if_neg c23] at H
       have c23b0 : (t289 == 3) = false := beq_eq_false_iff_ne.mpr c23
       have c23b1 : (t289 != 3) = true := bne_iff_ne.mpr c23
       obtain ⟨c28, H⟩ := iS H
       have c28b0 := decide_eq_true c28
       have c28b1 : decide (0 < x4_1.length) = true := decide_eq_true (by omega)
       clear c28
       obtain ⟨y297, hy297⟩ : ∃ y_ : List Int, y_ = (x4_1.set (0 : Int).toNat ((wrap64 (240 + x0_1)) % 256)) := ⟨_, rfl⟩
       replace H : (some y297) = some r := by first | (rw [hy297]; with_reducible exact H) | (have H2_ := (Option.bind_some _ _).symm.trans H; rw [hy297]; with_reducible exact H2_) | (have H2_ := (Option.bind_some _ _).symm.trans H; with_reducible exact H2_) | with_reducible exact H | (rw [hy297]; exact H) | exact H
       have Ny297 := gA hy297
       clear hy297
       obtain rfl := Option.some.inj H
       have p29 : 0 ≤ (0 : Int) := (by omega)
       have q29 : (0 : Int) < ((x4_1.length : Int) : Int) := of_decide_eq_true (by assumption)
       have qi29 : (0 < x4_1.length) = True := eq_true (by omega)
       obtain ⟨go29, co29, eo29, gb29, gl29, cl29, HG29⟩ := Kd.R_form HO_4.out (by omega)
       (first | cases eo29 | (injection eo29 with ea_ en_ ec_; (first | subst ea_ | (injection ea_ with ea_; subst ea_)); subst ec_; clear en_))
       have GB29 := gA gb29
       have GG29 := gA HG29
       clear gb29 gl29 HG29
       obtain ⟨hx29_0, hf29_0⟩ := Kd.R_celln 0 HO_4.out (0 : Int) p29 q29
       (try rw [show ((0 : Int)).toNat = 0 from rfl] at hx29_0)
       (try simp only [Nat.reduceMul, Nat.zero_mul, Nat.zero_add, Nat.reduceAdd] at hx29_0)
       (try rw [show ((0 : Int)).toNat = 0 from rfl] at hf29_0)
       (try simp only [Nat.reduceMul, Nat.zero_mul, Nat.zero_add, Nat.reduceAdd] at hf29_0)
       replace p29 := eq_true p29
       replace q29 := eq_true q29
       have HP30 := Kd.R_putg HO_4.out (0 : Int) ((wrap64 (240 + x0_1)) % 256)
       go_wp2_with (first | ((with_reducible refine gate_store (t := 5) (p := 30) rfl ?_); refine store_event (t := 5) (p := 30) (v := ?vo_w31) (w1 := (wr.setCell ⟨go29, (0 : Int).toNat, none⟩ (.int .u8 ((wrap64 (240 + x0_1)) % 256)))) ?hg ?ho ?hn ?hr ?_; (case ho => rfl); (case hg => rfl); (case hn => rfl); (case hr => first | (go_simp; done) | (go_simp; rfl)); intro w31 hw; have hg : wr.grownBy w31 (some go29) := (by rw [hw]; exact HP30.2); have hp_ : Kd.R (Kd.int .u8) 5 w31 w.heap.size (fun _ => True) (.slice (some ⟨go29, 0, none⟩) x4_1.length co29) y297 := (by rw [hw, Ny297.out]; exact HP30.1); clear HP30; replace HO_4 := gA (hp_); replace HB := gA ((by rw [hw]; exact below_set (HB.out) GB29.out : Below w.heap.size w w31)); clear hg hw hp_))
       go_ret
       exact ⟨_, rfl, gR HO_4, gB HB⟩
mutual
def triglyphref16_Number.l0 : Nat → Int → ByteArray → ByteArray → Int → Option (ByteArray)
 | 0, _, _, _, _ => none
 | k + 1, x0, x1, x5, x6 => if x6 = 0 then (triglyphref16_Number.j1 k x0 x1 x5 x6 (x5.toList == ([] : List UInt8))) else (triglyphref16_Number.j1 k x0 x1 x5 x6 true)
def triglyphref16_Number.j1 : Nat → Int → ByteArray → ByteArray → Int → Bool → Option (ByteArray)
 | 0, _, _, _, _, _ => none
 | k + 1, x0, x1, x5, x6, x14 => if x14 = true then (if (Int.tmod x6 10) < 0 then ((some (([(wrap64 (48 + (wrap64 (-(Int.tmod x6 10))))) % 256] : List Int) : List Int)).bind fun y298 => (if (strOfNums y298).size + x5.size ≤ 9223372036854775807 then (triglyphref16_Number.l0 k x0 x1 ((strOfNums y298) ++ x5) (wrap64 (Int.tdiv x6 10))) else (none))) else ((some (([(wrap64 (48 + (Int.tmod x6 10))) % 256] : List Int) : List Int)).bind fun y301 => (if (strOfNums y301).size + x5.size ≤ 9223372036854775807 then (triglyphref16_Number.l0 k x0 x1 ((strOfNums y301) ++ x5) (wrap64 (Int.tdiv x6 10))) else (none)))) else (if x0 < 0 then (if x1.size + x5.size ≤ 9223372036854775807 then (some (x1 ++ x5)) else (none)) else (some x5))
end
def triglyphref16_Number.f (k : Nat) (a0 : Int) (a1 : ByteArray) : Option (ByteArray) := triglyphref16_Number.l0 k a0 a1 (⟨#[]⟩ : ByteArray) a0
theorem triglyphref16_Number.mono_l : ∀ k, (∀ y0 y1 y2 y3, LeO (triglyphref16_Number.l0 k y0 y1 y2 y3) (triglyphref16_Number.l0 (k + 1) y0 y1 y2 y3)) ∧ (∀ y0 y1 y2 y3 y4, LeO (triglyphref16_Number.j1 k y0 y1 y2 y3 y4) (triglyphref16_Number.j1 (k + 1) y0 y1 y2 y3 y4))
 | 0 => ⟨fun _ _ _ _ r h => by simp [triglyphref16_Number.l0] at h, fun _ _ _ _ _ r h => by simp [triglyphref16_Number.j1] at h⟩
 | k + 1 => by
  obtain ⟨ih0, ih1⟩ := triglyphref16_Number.mono_l k
  refine ⟨?_, ?_⟩
  ·intro y0 y1 y2 y3
   unfold triglyphref16_Number.l0
   repeat' first
   | (with_reducible exact ih0 _ _ _ _)
   | (with_reducible exact ih1 _ _ _ _ _)
   | (with_reducible exact LeO.refl _)
   | (with_reducible exact LeO.none _)
   | (with_reducible refine LeO.ite ?_ ?_)
   | (with_reducible refine LeO.bind ?_ (fun _ => ?_))





  ·intro y0 y1 y2 y3 y4
   unfold triglyphref16_Number.j1
   repeat' first
   | (with_reducible exact ih0 _ _ _ _)
   | (with_reducible exact ih1 _ _ _ _ _)
   | (with_reducible exact LeO.refl _)
   | (with_reducible exact LeO.none _)
   | (with_reducible refine LeO.ite ?_ ?_)
   | (with_reducible refine LeO.bind ?_ (fun _ => ?_))
theorem triglyphref16_Number.mono : ∀ a0 a1 k, LeO (triglyphref16_Number.f k a0 a1) (triglyphref16_Number.f (k + 1) a0 a1) := by
 intro a0 a1 k
 obtain ⟨ih0, ih1⟩ := triglyphref16_Number.mono_l k
 unfold triglyphref16_Number.f
 repeat' first
   | (with_reducible exact ih0 _ _ _ _)
   | (with_reducible exact ih1 _ _ _ _ _)
   | (with_reducible exact LeO.refl _)
   | (with_reducible exact LeO.none _)
   | (with_reducible refine LeO.ite ?_ ?_)
   | (with_reducible refine LeO.bind ?_ (fun _ => ?_))
set_option maxHeartbeats 8000000 in
set_option maxRecDepth 100000 in
theorem triglyphref16_Number.calls (k : Nat) (a0 : Int) (a1 : ByteArray) (r : ByteArray) (w : World) (h : triglyphref16_Number.f k a0 a1 = some r) :
  Calls Try.prog 40 #[.int .i64 a0, .string a1] w fun e w' => e = .returned (.string r) ∧ Below w.heap.size w w' := by
 have HB := gA (Below.refl w.heap.size w)
 have H : (triglyphref16_Number.l0 k a0 a1 (⟨#[]⟩ : ByteArray) a0) = some r := h
 clear h
 have H' := gA H
 clear H
 go_enter Try.func40, Try.ntmps40
 go_wp2
 go_loopg [5, 6] k (fun kq v5 v6 w' => ∃ (x5_1 : ByteArray) (x6_1 : Int), v5 = .string x5_1 ∧ v6 = .int .i64 x6_1 ∧ Aside0 (triglyphref16_Number.l0 kq a0 a1 x5_1 x6_1 = some r) ∧ Aside0 (kq ≤ k) ∧ Aside0 (Below w.heap.size w w'))
 case atStart => exact ⟨((⟨#[]⟩ : ByteArray)), (a0), (rfl), (rfl), H', ⟨Nat.le_refl _⟩, ⟨gB HB⟩⟩
 case round =>
  clear H'
  try clear p2
  obtain ⟨x5_1, x6_1, rfl, rfl, HA, HK1, HB⟩ := hrel
  cases gk with
  | zero => exact absurd HA.out (by simp [triglyphref16_Number.l0])
  | succ k1 =>
   have H := HA.out; clear HA
   simp only [triglyphref16_Number.l0] at H
   have HC3 := gA H
   clear H
   go_upto_region 3 with (fail)
   go_cut [14] (fun v14 wc => ∃ (kq : Nat) (x14_2 : Bool), v14 = .bool x14_2 ∧ Aside0 (triglyphref16_Number.j1 kq a0 a1 x5_1 x6_1 x14_2 = some r) ∧ Aside0 (kq ≤ k1) ∧ Aside0 (Below w.heap.size w wc))
   case first =>
    have H := HC3.out; clear HC3
    by_cases c4 : x6_1 = 0
    ·rw [if_pos c4] at H
     have c4b0 : (x6_1 == 0) = true := beq_iff_eq.mpr c4
     have c4b1 : (x6_1 != 0) = false := bne_eq_false_iff_eq.mpr c4
     clear c4
     (first | rw [c4b0] | rw [c4b1] | (simp only [i64_w, i32_w]; rw [c4b0]) | skip)
     have H' := gA H
     clear H
     go_wp2
     all_goals (go_meet; (case rel => exact ⟨_, ((x5_1.toList == ([] : List UInt8))), (by first | rfl | (simp; done) | (simp [*]; done) | (exfalso; simp_all; done) | (exfalso; simp_all; omega)), H', ⟨by have := HK1.out; first | omega | exact Nat.le_refl _⟩, ⟨gB HB⟩⟩))
    ·rw [if_neg c4] at H
     have c4b0 : (x6_1 == 0) = false := beq_eq_false_iff_ne.mpr c4
     have c4b1 : (x6_1 != 0) = true := bne_iff_ne.mpr c4
     (first | rw [c4b0] | rw [c4b1] | (simp only [i64_w, i32_w]; rw [c4b0]) | skip)
     have H' := gA H
     clear H
     go_wp2
     all_goals (go_meet; (case rel => exact ⟨_, (true), (by first | rfl | (simp; done) | (simp [*]; done) | (exfalso; simp_all; done) | (exfalso; simp_all; omega)), H', ⟨by have := HK1.out; first | omega | exact Nat.le_refl _⟩, ⟨gB HB⟩⟩))
   case rest =>
    clear HC3
    try clear p2
    try clear c4
    try clear c4b0
    try clear c4b1
    try clear p2
    obtain ⟨kq, x14_2, rfl, HA, HJ2, HB⟩ := hcut
    cases kq with
    | zero => exact absurd HA.out (by simp [triglyphref16_Number.j1])
    | succ kj2 =>
     have H := HA.out; clear HA
     simp only [triglyphref16_Number.j1] at H
     by_cases c5 : x14_2 = true
     ·subst c5
      have H1 : (if (Int.tmod x6_1 10) < 0 then ((some (([(wrap64 (48 + (wrap64 (-(Int.tmod x6_1 10))))) % 256] : List Int) : List Int)).bind fun y298 => (if (strOfNums y298).size + x5_1.size ≤ 9223372036854775807 then (triglyphref16_Number.l0 kj2 a0 a1 ((strOfNums y298) ++ x5_1) (wrap64 (Int.tdiv x6_1 10))) else (none))) else ((some (([(wrap64 (48 + (Int.tmod x6_1 10))) % 256] : List Int) : List Int)).bind fun y301 => (if (strOfNums y301).size + x5_1.size ≤ 9223372036854775807 then (triglyphref16_Number.l0 kj2 a0 a1 ((strOfNums y301) ++ x5_1) (wrap64 (Int.tdiv x6_1 10))) else (none)))) = some r := by rw [if_pos rfl] at H; exact H
      clear H; have H := H1; clear H1
      by_cases c6 : (Int.tmod x6_1 10) < 0
      ·rw [if_pos c6] at H
       have c6b0 := decide_eq_true c6
       clear c6
       obtain ⟨y298, hy298⟩ : ∃ y_ : List Int, y_ = (([(wrap64 (48 + (wrap64 (-(Int.tmod x6_1 10))))) % 256] : List Int)) := ⟨_, rfl⟩
       replace H : (if (strOfNums y298).size + x5_1.size ≤ 9223372036854775807 then (triglyphref16_Number.l0 kj2 a0 a1 ((strOfNums y298) ++ x5_1) (wrap64 (Int.tdiv x6_1 10))) else (none)) = some r := by first | (rw [hy298]; with_reducible exact H) | (have H2_ := (Option.bind_some _ _).symm.trans H; rw [hy298]; with_reducible exact H2_) | (have H2_ := (Option.bind_some _ _).symm.trans H; with_reducible exact H2_) | with_reducible exact H | (rw [hy298]; exact H) | exact H
       have Ny298 := gA hy298
       clear hy298
       obtain ⟨c7, H⟩ := iS H
       have c7b0 := eq_true c7
       have c7b1 := decide_eq_true c7
       try have c7b2 : (9223372036854775807 < (strOfNums y298).size + x5_1.size) = False := eq_false (Nat.not_lt.2 c7)
       have H' := gA H
       clear H
       go_wp2_with (first | ((with_reducible refine gate_dst (N := 24) rfl ?_); refine Kd.R_lit (Kd.int .u8) _ 5 ?hg (N := 24) ?hd (xs := ([(wrap64 (48 + (wrap64 (-(Int.tmod x6_1 10))))) % 256] : List Int)) (inner := [.int .u8 ((wrap64 (48 + (wrap64 (-(Int.tmod x6_1 10))))) % 256)]) (ok := fun _ => True) (okp := fun _ => True) ?hr ?hp (fun _ hk => hk) trivial (Below.refl _ _) (Nat.le_refl _) (by simp) ?_; (case hd => rfl); (case hg => rfl); (case hr => first | (go_simp; done) | (go_simp; rfl)); (case hp => exact (Reps.one (show Kd.M (Kd.int .u8) _ _ _ ((wrap64 (48 + (wrap64 (-(Int.tmod x6_1 10))))) % 256) [.int .u8 ((wrap64 (48 + (wrap64 (-(Int.tmod x6_1 10))))) % 256)] from rfl) (Reps.none _ _))); intro v299 w8 ho9 hb hg_ hnew_; clear hg_ hnew_; (first | rw [← Ny298.out] at ho9 | (simp only [Int.reduceToNat] at ho9; rw [← Ny298.out] at ho9)); have HO300 := gA (Kd.R_lower ho9 (below_size (gB HB))); replace HB := gA (below_step (gB HB) hb); clear hb ho9; have hcv10 := own_string (P := Try.prog) Try.underlying56 Try.underlying5 Try.underlying9 (Kd.own_of_R HO300.out)))
       go_roundg kj2
       case measure => have := HK1.out; have := HJ2.out; omega
       case rel => exact ⟨((strOfNums y298) ++ x5_1), (wrap64 (Int.tdiv x6_1 10)), (rfl), (rfl), H', ⟨by have := HK1.out; have := HJ2.out; omega⟩, ⟨gB HB⟩⟩
      ·rw [if_neg c6] at H
       have c6b0 := decide_eq_false c6
       clear c6
       obtain ⟨y301, hy301⟩ : ∃ y_ : List Int, y_ = (([(wrap64 (48 + (Int.tmod x6_1 10))) % 256] : List Int)) := ⟨_, rfl⟩
       replace H : (if (strOfNums y301).size + x5_1.size ≤ 9223372036854775807 then (triglyphref16_Number.l0 kj2 a0 a1 ((strOfNums y301) ++ x5_1) (wrap64 (Int.tdiv x6_1 10))) else (none)) = some r := by first | (rw [hy301]; with_reducible exact H) | (have H2_ := (Option.bind_some _ _).symm.trans H; rw [hy301]; with_reducible exact H2_) | (have H2_ := (Option.bind_some _ _).symm.trans H; with_reducible exact H2_) | with_reducible exact H | (rw [hy301]; exact H) | exact H
       have Ny301 := gA hy301
       clear hy301
       obtain ⟨c11, H⟩ := iS H
       have c11b0 := eq_true c11
       have c11b1 := decide_eq_true c11
       try have c11b2 : (9223372036854775807 < (strOfNums y301).size + x5_1.size) = False := eq_false (Nat.not_lt.2 c11)
       have H' := gA H
       clear H
       go_wp2_with (first | ((with_reducible refine gate_dst (N := 24) rfl ?_); refine Kd.R_lit (Kd.int .u8) _ 5 ?hg (N := 24) ?hd (xs := ([(wrap64 (48 + (Int.tmod x6_1 10))) % 256] : List Int)) (inner := [.int .u8 ((wrap64 (48 + (Int.tmod x6_1 10))) % 256)]) (ok := fun _ => True) (okp := fun _ => True) ?hr ?hp (fun _ hk => hk) trivial (Below.refl _ _) (Nat.le_refl _) (by simp) ?_; (case hd => rfl); (case hg => rfl); (case hr => first | (go_simp; done) | (go_simp; rfl)); (case hp => exact (Reps.one (show Kd.M (Kd.int .u8) _ _ _ ((wrap64 (48 + (Int.tmod x6_1 10))) % 256) [.int .u8 ((wrap64 (48 + (Int.tmod x6_1 10))) % 256)] from rfl) (Reps.none _ _))); intro v302 w12 ho13 hb hg_ hnew_; clear hg_ hnew_; (first | rw [← Ny301.out] at ho13 | (simp only [Int.reduceToNat] at ho13; rw [← Ny301.out] at ho13)); have HO303 := gA (Kd.R_lower ho13 (below_size (gB HB))); replace HB := gA (below_step (gB HB) hb); clear hb ho13; have hcv14 := own_string (P := Try.prog) Try.underlying56 Try.underlying5 Try.underlying9 (Kd.own_of_R HO303.out)))
       go_roundg kj2
       case measure => have := HK1.out; have := HJ2.out; omega
       case rel => exact ⟨((strOfNums y301) ++ x5_1), (wrap64 (Int.tdiv x6_1 10)), (rfl), (rfl), H', ⟨by have := HK1.out; have := HJ2.out; omega⟩, ⟨gB HB⟩⟩
     ·replace c5 := Bool.eq_false_iff.mpr c5
      subst c5
      have H1 : (if a0 < 0 then (if a1.size + x5_1.size ≤ 9223372036854775807 then (some (a1 ++ x5_1)) else (none)) else (some x5_1)) = some r := by rw [if_neg (show ¬ (false = true) by decide)] at H; exact H
      clear H; have H := H1; clear H1
      by_cases c15 : a0 < 0
      ·rw [if_pos c15] at H
       have c15b0 := decide_eq_true c15
       clear c15
       obtain ⟨c16, H⟩ := iS H
       have c16b0 := eq_true c16
       have c16b1 := decide_eq_true c16
       try have c16b2 : (9223372036854775807 < a1.size + x5_1.size) = False := eq_false (Nat.not_lt.2 c16)
       obtain rfl := Option.some.inj H
       go_wp2
       go_ret
       exact ⟨rfl, gB HB⟩
      ·rw [if_neg c15] at H
       have c15b0 := decide_eq_false c15
       clear c15
       obtain rfl := Option.some.inj H
       go_wp2
       go_ret
       exact ⟨rfl, gB HB⟩
def triglyphref05_Item.f (k : Nat) (l0_0 : List Int) (l0_1 : List (S40)) (a1 : Int) : Option (List Int × (List (S40))) := if 1 ≤ (l0_0.length : Int) then ((triglyphref03_Size.f k (l0_0.drop 1)).bind fun bt307 => (if ([] : List Int).length + (l0_0.drop 1).length < 17592186044416 then (if 0 ≤ (wrap64 (a1 * bt307.1)) then (if (wrap64 (a1 * bt307.1)) ≤ (wrap64 ((wrap64 (a1 * bt307.1)) + bt307.1)) then (if (wrap64 ((wrap64 (a1 * bt307.1)) + bt307.1)) ≤ (l0_1.length : Int) then ((some ((l0_1.take ((wrap64 ((wrap64 (a1 * bt307.1)) + bt307.1)) : Int).toNat).drop ((wrap64 (a1 * bt307.1)) : Int).toNat : List (S40))).bind fun y314 => (if ([] : List (S40)).length + y314.length < 3518437208883 then (some ((([] : List Int) ++ (l0_0.drop 1)), (([] : List (S40)) ++ y314))) else (none))) else (none)) else (none)) else (none)) else (none))) else (none)
theorem triglyphref05_Item.mono : ∀ a0 a1 a2 k, LeO (triglyphref05_Item.f k a0 a1 a2) (triglyphref05_Item.f (k + 1) a0 a1 a2) := by
 intro a0 a1 a2 k
 unfold triglyphref05_Item.f
 repeat' first
   | (with_reducible exact triglyphref03_Size.mono _ _)
   | (with_reducible exact LeO.refl _)
   | (with_reducible exact LeO.none _)
   | (with_reducible refine LeO.ite ?_ ?_)
   | (with_reducible refine LeO.bind ?_ (fun _ => ?_))
   | exact triglyphref03_Size.mono _ _
def triglyphref05_Item.T3 : Bool × List (List Nat × List Nat) := (true, [([], []), ([0], [0]), ([], []), ([2], [2]), ([3], [3]), ([1, 4], [1, 4]), ([0, 1, 2, 3, 4, 5], []), ([6, 5, 5, 0, 1, 2, 3, 4, 5], [5, 6])])
def triglyphref05_Item.B3 : List Nat := [0, 1, 0, 4, 12, 31, 63, 127]
theorem triglyphref05_Item.tab3 : rtab .any (opsOf Try.f25 3) = triglyphref05_Item.T3 := by kernel_rfl
theorem triglyphref05_Item.bits3 : waitsOk triglyphref05_Item.T3.2 triglyphref05_Item.B3 = true := by kernel_rfl
def triglyphref05_Item.T4 : Bool × List (List Nat × List Nat) := (true, [([], []), ([0], [0]), ([], []), ([2], [2]), ([], []), ([], []), ([4, 5], [4, 5]), ([], []), ([], []), ([7, 8], [7, 8]), ([], []), ([9, 10], [9, 10]), ([3, 6, 11], [3, 6, 11]), ([1, 12], [1, 12]), ([0, 1, 2, 3, 4, 5, 6, 7, 8, 9, 10, 11, 12, 13], []), ([14, 13, 13, 0, 1, 2, 3, 4, 5, 6, 7, 8, 9, 10, 11, 12, 13], [13, 14])])
def triglyphref05_Item.B4 : List Nat := [0, 1, 0, 4, 0, 0, 48, 0, 0, 384, 0, 1920, 4092, 8191, 16383, 32767]
theorem triglyphref05_Item.tab4 : rtab .any (opsOf Try.f25 4) = triglyphref05_Item.T4 := by kernel_rfl
theorem triglyphref05_Item.bits4 : waitsOk triglyphref05_Item.T4.2 triglyphref05_Item.B4 = true := by kernel_rfl
set_option maxHeartbeats 8000000 in
set_option maxRecDepth 100000 in
theorem triglyphref05_Item.calls (k : Nat) (A0_0 : Option Addr) (c0_0 : Nat) (l0_0 : List Int) (P0_1_ : Nat → Prop) (A0_1 : Option Addr) (c0_1 : Nat) (l0_1 : List (S40)) (a1 : Int) (r1 : List Int) (r2 : List (S40)) (w : World) (hr0_0 : Kd.C (Kd.int .i64) w A0_0 l0_0.length l0_0) (hc0_0 : l0_0.length ≤ c0_0) (hs0_1 : Kd.V k40 40 w w.heap.size (fun k_ => P0_1_ k_) (.slice A0_1 l0_1.length c0_1) l0_1) (h : triglyphref05_Item.f k l0_0 l0_1 a1 = some (r1, r2)) :
  Calls Try.prog 25 #[.agg #[.slice A0_0 l0_0.length c0_0, .slice A0_1 l0_1.length c0_1], .int .i64 a1] w fun e w' => ∃ v0_ v1_ : Value, e = .returned (.agg #[v0_, v1_]) ∧ Kd.R (Kd.int .i64) 3 w' w.heap.size (fun k_ => (w.heap.size ≤ k_)) v0_ r1 ∧ Kd.N k40 40 w' w.heap.size (fun k_ => (P0_1_ k_ ∨ w.heap.size ≤ k_) ∧ some k_ ≠ (v0_ : Value).ownBlock) v1_ r2 ∧ Below w.heap.size w w' := by
 have hu25 := Try.underlying25
 have HR0_0 := gA hr0_0
 have HC0_0 := gA hc0_0
 clear hr0_0 hc0_0
 have HO0_1 := gA (show Kd.V k40 40 w w.heap.size (fun k_ => (P0_1_ k_ ∨ w.heap.size ≤ k_)) (.slice A0_1 l0_1.length c0_1) l0_1 from Kd.V_mono hs0_1 (fun k_ hk => .inl hk))
 have HB := gA (Below.refl w.heap.size w)
 have H : (if 1 ≤ (l0_0.length : Int) then ((triglyphref03_Size.f k (l0_0.drop 1)).bind fun bt307 => (if ([] : List Int).length + (l0_0.drop 1).length < 17592186044416 then (if 0 ≤ (wrap64 (a1 * bt307.1)) then (if (wrap64 (a1 * bt307.1)) ≤ (wrap64 ((wrap64 (a1 * bt307.1)) + bt307.1)) then (if (wrap64 ((wrap64 (a1 * bt307.1)) + bt307.1)) ≤ (l0_1.length : Int) then ((some ((l0_1.take ((wrap64 ((wrap64 (a1 * bt307.1)) + bt307.1)) : Int).toNat).drop ((wrap64 (a1 * bt307.1)) : Int).toNat : List (S40))).bind fun y314 => (if ([] : List (S40)).length + y314.length < 3518437208883 then (some ((([] : List Int) ++ (l0_0.drop 1)), (([] : List (S40)) ++ y314))) else (none))) else (none)) else (none)) else (none)) else (none))) else (none)) = some (r1, r2) := h
 clear h
 obtain ⟨c3, H⟩ := iS H
 have c3b0 := eq_true c3
 have c3b1 := decide_eq_true c3
 clear c3
 replace H := Option.bind_eq_some_iff.mp H
 obtain ⟨⟨t307, t308⟩, A40, H⟩ := H
 replace H : (if ([] : List Int).length + (l0_0.drop 1).length < 17592186044416 then (if 0 ≤ (wrap64 (a1 * t307)) then (if (wrap64 (a1 * t307)) ≤ (wrap64 ((wrap64 (a1 * t307)) + t307)) then (if (wrap64 ((wrap64 (a1 * t307)) + t307)) ≤ (l0_1.length : Int) then ((some ((l0_1.take ((wrap64 ((wrap64 (a1 * t307)) + t307)) : Int).toNat).drop ((wrap64 (a1 * t307)) : Int).toNat : List (S40))).bind fun y314 => (if ([] : List (S40)).length + y314.length < 3518437208883 then (some ((([] : List Int) ++ (l0_0.drop 1)), (([] : List (S40)) ++ y314))) else (none))) else (none)) else (none)) else (none)) else (none)) = some (r1, r2) := H
 have A4 := gA A40
 clear A40
 have c5b0 := eq_true (of_decide_eq_true (by assumption) : 1 ≤ (l0_0.length : Int))
 obtain ⟨c6, H⟩ := iS H
 have LMc6 := gA c6
 clear c6
 obtain ⟨y311, hy311⟩ : ∃ y_ : List Int, y_ = (([] : List Int) ++ (l0_0.drop 1)) := ⟨_, rfl⟩
 replace H : (if 0 ≤ (wrap64 (a1 * t307)) then (if (wrap64 (a1 * t307)) ≤ (wrap64 ((wrap64 (a1 * t307)) + t307)) then (if (wrap64 ((wrap64 (a1 * t307)) + t307)) ≤ (l0_1.length : Int) then ((some ((l0_1.take ((wrap64 ((wrap64 (a1 * t307)) + t307)) : Int).toNat).drop ((wrap64 (a1 * t307)) : Int).toNat : List (S40))).bind fun y314 => (if ([] : List (S40)).length + y314.length < 3518437208883 then (some (y311, (([] : List (S40)) ++ y314))) else (none))) else (none)) else (none)) else (none)) = some (r1, r2) := by first | (rw [hy311]; with_reducible exact H) | (have H2_ := (Option.bind_some _ _).symm.trans H; rw [hy311]; with_reducible exact H2_) | (have H2_ := (Option.bind_some _ _).symm.trans H; with_reducible exact H2_) | with_reducible exact H | (rw [hy311]; exact H) | exact H
 have Ny311 := gA hy311
 clear hy311
 obtain ⟨ji7, hji7⟩ : ∃ j_ : Int, (wrap64 (a1 * t307)) = j_ := ⟨_, rfl⟩
 replace H : (if 0 ≤ (ji7) then (if (ji7) ≤ (wrap64 ((ji7) + t307)) then (if (wrap64 ((ji7) + t307)) ≤ (l0_1.length : Int) then ((some ((l0_1.take ((wrap64 ((ji7) + t307)) : Int).toNat).drop ((ji7) : Int).toNat : List (S40))).bind fun y314 => (if ([] : List (S40)).length + y314.length < 3518437208883 then (some (y311, (([] : List (S40)) ++ y314))) else (none))) else (none)) else (none)) else (none)) = some (r1, r2) := by first | (rw [hji7] at H; exact H) | (simp only [hji7] at H ⊢; exact H)
 (try rw [hji7] at A4)
 have hji7w : (IntKind.i64.wrap (a1 * t307)) = ji7 := (i64_w _).trans hji7
 obtain ⟨c8, H⟩ := iS H
 have c8b0 := eq_true c8
 have c8b1 := decide_eq_true c8
 clear c8
 obtain ⟨c9, H⟩ := iS H
 have c9b0 := eq_true c9
 have c9b1 := decide_eq_true c9
 obtain ⟨c10, H⟩ := iS H
 have c10b0 := eq_true c10
 have c10b1 := decide_eq_true c10
 obtain ⟨y314, hy314⟩ : ∃ y_ : List (S40), y_ = ((l0_1.take ((wrap64 ((ji7) + t307)) : Int).toNat).drop ((ji7) : Int).toNat) := ⟨_, rfl⟩
 replace H : (if ([] : List (S40)).length + y314.length < 3518437208883 then (some (y311, (([] : List (S40)) ++ y314))) else (none)) = some (r1, r2) := by first | (rw [hy314]; with_reducible exact H) | (have H2_ := (Option.bind_some _ _).symm.trans H; rw [hy314]; with_reducible exact H2_) | (have H2_ := (Option.bind_some _ _).symm.trans H; with_reducible exact H2_) | with_reducible exact H | (rw [hy314]; exact H) | exact H
 have Ny314 := gA hy314
 clear hy314
 obtain ⟨c11, H⟩ := iS H
 have LMc11 := gA c11
 clear c11
 obtain ⟨y319, hy319⟩ : ∃ y_ : List (S40), y_ = (([] : List (S40)) ++ y314) := ⟨_, rfl⟩
 replace H : (some (y311, y319)) = some (r1, r2) := by first | (rw [hy319]; with_reducible exact H) | (have H2_ := (Option.bind_some _ _).symm.trans H; rw [hy319]; with_reducible exact H2_) | (have H2_ := (Option.bind_some _ _).symm.trans H; with_reducible exact H2_) | with_reducible exact H | (rw [hy319]; exact H) | exact H
 have Ny319 := gA hy319
 clear hy319
 simp only [Option.some.injEq, Prod.mk.injEq] at H
 obtain ⟨rfl, rfl⟩ := H
 go_enter Try.func25, Try.ntmps25
 try go_wp2_with (first | ((with_reducible refine gate_dst (N := 2) rfl ?_); refine box_event ?hg (N := 2) ?hd (cs := #[.slice A0_0 l0_0.length c0_0, .slice A0_1 l0_1.length c0_1]) (t := 25) ?hr ?_; (case hd => rfl); (case hg => rfl); (case hr => first | (go_simp; done) | (go_simp; rfl)); intro gb304 hg w12 hbox hb; replace HO0_1 := gA (Kd.V_below (Kd.V_elderB (gV HO0_1) gb304 (Nat.le_of_eq hg.symm)) hb); have BK304 := gA (hbox); have GW304 := gA ((by rw [hg]; exact (below_size (gB HB)) : w.heap.size ≤ gb304)); have GE304 := gA ((by rw [hg]; exact (below_size (gB HB)) : w.heap.size ≤ gb304)); replace HB := gA (below_step (gB HB) hb); clear hb hbox hg) | ((with_reducible refine gate_dst (N := 4) rfl ?_); refine box_event ?hg (N := 4) ?hd (cs := #[.slice none 0 0, .slice none 0 0]) (t := 25) ?hr ?_; (case hd => rfl); (case hg => rfl); (case hr => first | (go_simp; done) | (go_simp; rfl)); intro gb305 hg w13 hbox hb; replace HO0_1 := gA (Kd.V_below (Kd.V_elderB (gV HO0_1) gb305 (Nat.le_of_eq hg.symm)) hb); have BK305 := gA (hbox); have GW305 := gA ((by rw [hg]; exact (below_size (gB HB)) : w.heap.size ≤ gb305)); have GE305 := gA ((by rw [hg]; exact (below_size (gB HB)) : w.heap.size ≤ gb305)); replace HB := gA (below_step (gB HB) hb); have NB304_305 := gA ((by rw [hg]; exact Nat.ne_of_lt (blk_lt (gK BK304)) : gb304 ≠ gb305)); have NB305_304 := gA ((by rw [hg]; exact Nat.ne_of_gt (blk_lt (gK BK304)) : gb305 ≠ gb304)); replace BK304 := gA (blk_below (gK BK304) hb); clear hb hbox hg; have hnb14 := NB304_305.out; have hnc14 := NB305_304.out; obtain ⟨hcz15_0, hcz15_1, hfz15_0, hfz15_1⟩ := gz2 BK304; obtain ⟨i016, hi016, _, hsz16, _⟩ := info_parts info3; obtain ⟨A16, hcut16, hA16, hC16⟩ := print_drop_of (P := Try.prog) (Value.int .i64) 0 22 3 .i64 Try.underlying22 hi016 hsz16 A0_0 c0_0 l0_0 1 (by omega) (of_decide_eq_true (by assumption)) HC0_0.out; have HR306 := gA (Kd.C_of_reads (h1 := fun _ => rfl) (hA16 _ (Kd.reads_of_C HR0_0.out))); have HC306 := gA hC16; clear hA16 hC16 hi016 hsz16) | ((with_reducible refine gate_callee (f := 26) rfl ?_); refine goesL_ (some 12) rfl rfl Try.func26 (by kernel_rfl) rfl #[.slice A16 (l0_0.drop 1).length (c0_0 - 1)] rfl (by (try simp only [List.map_toArray, List.map_cons, List.map_nil]); first | done | (rw [show (l0_0.drop 1).length = (l0_0.length - 1) from List.length_drop] <;> rfl) | rfl | (simp only [List.length_drop, List.length_take]; rfl)) ?_; (with_reducible refine (triglyphref03_Size.calls k _ _ (l0_0.drop 1) t307 t308 _ ?side1 ?side2 A4.out).mono ?_); (case side1 => repeat (first | exact (Kd.C_below HR306.out HB.out) | exact (Kd.C_below HR310.out HB.out) | (with_reducible refine Kd.C_alloc ?_ _) | (with_reducible refine Kd.C_drewN ?_ _) | (with_reducible refine Kd.C_drew ?_))); (case side2 => exact HC306.out); rintro e w' ⟨rfl, ⟨nd, rfl⟩⟩; refine ⟨_, rfl, ?_⟩; (try (rw [drewN_self w13]; generalize hq_ : World.drewN w13 _ = w13; have n0_ : Aside0 (Kd.V k40 40 w13 w.heap.size (fun k_ => (P0_1_ k_ ∨ w.heap.size ≤ k_) ∧ k_ ≠ gb304 ∧ k_ ≠ gb305) (.slice A0_1 l0_1.length c0_1) l0_1) := ⟨by rw [← hq_]; exact (Kd.V_mono HO0_1.out (fun _ hk => ⟨hk.1.1, ⟨hk.1.2, hk.2⟩⟩))⟩; have n1_ : Aside0 (w13.heap[gb304]? = some (.cells #[.slice A0_0 l0_0.length c0_0, .slice A0_1 l0_1.length c0_1] 25 (0, 0))) := ⟨by rw [← hq_]; exact (gK BK304)⟩; have n2_ : Aside0 (w13.heap[gb305]? = some (.cells #[.slice none 0 0, .slice none 0 0] 25 (0, 0))) := ⟨by rw [← hq_]; exact (gK BK305)⟩; have n3_ : Aside0 (Below w.heap.size w w13) := ⟨by rw [← hq_]; exact (gB HB)⟩; clear HO0_1 BK304 BK305 HB hq_; have HO0_1 := n0_; have BK304 := n1_; have BK305 := n2_; have HB := n3_; clear n0_ n1_ n2_ n3_))) | ((with_reducible refine gate_dst (N := 7) rfl ?_); refine box_event ?hg (N := 7) ?hd (cs := #[.slice none 0 0, .slice none 0 0]) (t := 25) ?hr ?_; (case hd => rfl); (case hg => rfl); (case hr => first | (go_simp; done) | (go_simp; rfl)); intro gb309 hg w17 hbox hb; replace HO0_1 := gA (Kd.V_below (Kd.V_elderB (gV HO0_1) gb309 (Nat.le_of_eq hg.symm)) hb); have BK309 := gA (hbox); have GW309 := gA ((by rw [hg]; exact (below_size (gB HB)) : w.heap.size ≤ gb309)); have GE309 := gA ((by rw [hg]; exact (below_size (gB HB)) : w.heap.size ≤ gb309)); replace HB := gA (below_step (gB HB) hb); have NB304_309 := gA ((by rw [hg]; exact Nat.ne_of_lt (blk_lt (gK BK304)) : gb304 ≠ gb309)); have NB309_304 := gA ((by rw [hg]; exact Nat.ne_of_gt (blk_lt (gK BK304)) : gb309 ≠ gb304)); replace BK304 := gA (blk_below (gK BK304) hb); have NB305_309 := gA ((by rw [hg]; exact Nat.ne_of_lt (blk_lt (gK BK305)) : gb305 ≠ gb309)); have NB309_305 := gA ((by rw [hg]; exact Nat.ne_of_gt (blk_lt (gK BK305)) : gb309 ≠ gb305)); replace BK305 := gA (blk_below (gK BK305) hb); clear hb hbox hg; have hnb18 := NB309_304.out; have hnc18 := NB304_309.out; have hnb19 := NB309_305.out; have hnc19 := NB305_309.out; obtain ⟨hcz20_0, hcz20_1, hfz20_0, hfz20_1⟩ := gz2 BK309))
 have n0_ : Aside0 (Kd.V k40 40 ((w17.setCell ⟨gb309, 0, none⟩ (.slice none 0 0)).setCell ⟨gb309, 1, none⟩ (.slice none 0 0)) w.heap.size (fun k_ => (P0_1_ k_ ∨ w.heap.size ≤ k_) ∧ k_ ≠ gb304 ∧ k_ ≠ gb305 ∧ k_ ≠ gb309) (.slice A0_1 l0_1.length c0_1) l0_1) := ⟨Kd.V_mono (Kd.V_far (p := ⟨gb309, 1, none⟩) (Kd.V_far (p := ⟨gb309, 0, none⟩) (Kd.V_mono HO0_1.out (fun k_ hk => (⟨hk, hk.2⟩ : _ ∧ k_ ≠ gb309))) (fun _ hk => hk.2) (.slice none 0 0)) (fun _ hk => hk.2) (.slice none 0 0)) (fun _ hk => by first | exact ⟨hk.1.1.1.1, ⟨hk.1.1.1.2, ⟨hk.1.1.2, hk.1.2⟩⟩⟩ | (simp_all; done))⟩
 have n1_ : Aside0 (((w17.setCell ⟨gb309, 0, none⟩ (.slice none 0 0)).setCell ⟨gb309, 1, none⟩ (.slice none 0 0)).heap[gb304]? = some (.cells #[.slice A0_0 l0_0.length c0_0, .slice A0_1 l0_1.length c0_1] 25 (0, 0))) := ⟨by refine blk_far ?_ NB304_309.out _; refine blk_far ?_ NB304_309.out _; exact gK BK304⟩
 have n2_ : Aside0 (((w17.setCell ⟨gb309, 0, none⟩ (.slice none 0 0)).setCell ⟨gb309, 1, none⟩ (.slice none 0 0)).heap[gb305]? = some (.cells #[.slice none 0 0, .slice none 0 0] 25 (0, 0))) := ⟨by refine blk_far ?_ NB305_309.out _; refine blk_far ?_ NB305_309.out _; exact gK BK305⟩
 have n3_ : Aside0 (((w17.setCell ⟨gb309, 0, none⟩ (.slice none 0 0)).setCell ⟨gb309, 1, none⟩ (.slice none 0 0)).heap[gb309]? = some (.cells #[.slice none 0 0, .slice none 0 0] 25 (0, 0))) := ⟨by refine blk_put (cs := #[.slice none 0 0, .slice none 0 0]) ?_ 1 _ rfl; refine blk_put (cs := #[.slice none 0 0, .slice none 0 0]) ?_ 0 _ rfl; exact gK BK309⟩
 have n4_ : Aside0 (Below w.heap.size w ((w17.setCell ⟨gb309, 0, none⟩ (.slice none 0 0)).setCell ⟨gb309, 1, none⟩ (.slice none 0 0))) := ⟨by repeat first | exact gB HB | refine below_set ?_ GE304.out | refine below_set ?_ GE305.out | refine below_set ?_ GE309.out⟩
 (try clear HO0_1)
 generalize ((w17.setCell ⟨gb309, 0, none⟩ (.slice none 0 0)).setCell ⟨gb309, 1, none⟩ (.slice none 0 0)) = w21 at n0_ n1_ n2_ n3_ n4_ ⊢
 have HO0_1 := n0_; have BK304 := n1_
 have BK305 := n2_; have BK309 := n3_
 have HB := n4_; clear n0_ n1_ n2_ n3_ n4_
 replace HO0_1 := gA (Kd.V_drew HO0_1.out); replace BK304 := gA (blk_drew BK304.out); replace BK305 := gA (blk_drew BK305.out); replace BK309 := gA (blk_drew BK309.out); replace HB := gA (below_drew1 HB.out)
 obtain ⟨i023, hi023, _, hsz23, _⟩ := info_parts info3
 obtain ⟨A23, hcut23, hA23, hC23⟩ := print_drop_of (P := Try.prog) (Value.int .i64) 0 22 3 .i64 Try.underlying22 hi023 hsz23 A0_0 c0_0 l0_0 1 (by omega) (of_decide_eq_true (by assumption)) HC0_0.out
 have HR310 := gA (Kd.C_of_reads (h1 := fun _ => rfl) (hA23 _ (Kd.reads_of_C HR0_0.out)))
 have HC310 := gA hC23
 clear hA23 hC23 hi023 hsz23
 refine start_ (n := 8) (S := fun w' => w'.cell? ⟨gb309, 0, none⟩ = some (.slice none 0 0) ∧ w'.cell? ⟨gb309, 1, none⟩ = some (.slice none 0 0) ∧ w'.cell? ⟨gb304, 0, none⟩ = some (.slice A0_0 l0_0.length c0_0) ∧ w'.cell? ⟨gb304, 1, none⟩ = some (.slice A0_1 l0_1.length c0_1)) (ds := [7]) #[false, false, false, false, false, false, false, false] (by kernel_rfl) rfl rfl ⟨(blk_cell BK309.out 0).trans rfl, (blk_cell BK309.out 1).trans rfl, (blk_cell BK304.out 0).trans rfl, (blk_cell BK304.out 1).trans rfl⟩ (fun hHeld => ?_); refine with_tabW triglyphref05_Item.tab3 triglyphref05_Item.bits3 (fun HT_ HW_ => ?_)
 generalize w21.drew = w22 at HO0_1 BK304 BK305 BK309 HB HR310 hHeld ⊢
 refine pure_ (i := 0) (N := some 16) (v := ?_) (a' := ?_) #[true, false, false, false, false, false, false, false] rfl rfl (any_of HT_.out (by kernel_rfl)) (fun _ _ _ h => h) (Or.inl ⟨by rfl, ?_⟩) ?_ ?_; rotate_left
 ·intro w'; go_simp; with_reducible rfl
 rotate_left
 ·simp only [Act.put, List.setIfInBounds_toArray, List.set_cons_zero, List.set_cons_succ, i64_w, i32_w]; rfl
 refine pure_ (i := 2) (N := some 18) (v := ?_) (a' := ?_) #[true, false, true, false, false, false, false, false] rfl rfl (any_of HT_.out (by kernel_rfl)) (fun _ _ _ h => h) (Or.inl ⟨by rfl, ?_⟩) ?_ ?_; rotate_left
 ·intro w'; go_simp; with_reducible rfl
 rotate_left
 ·simp only [Act.put, List.setIfInBounds_toArray, List.set_cons_zero, List.set_cons_succ, i64_w, i32_w]; rfl
 refine take_ (i := 1) (N := some 17) (v := ?_) (a' := ?_) #[true, true, true, false, false, false, false, false] rfl rfl (take_ofW HT_.out HW_.out (by kernel_rfl)) (fun _ _ _ h => h) (Or.inl ⟨by rfl, ?_⟩) hHeld ?_ ?_; rotate_left
 ·rintro w' ⟨s0, s1, s2, s3⟩; go_simp; with_reducible rfl
 rotate_left
 ·simp only [Act.put, List.setIfInBounds_toArray, List.set_cons_zero, List.set_cons_succ, i64_w, i32_w]; rfl
 refine take_ (i := 3) (N := some 19) (v := ?_) (a' := ?_) #[true, true, true, true, false, false, false, false] rfl rfl (take_ofW HT_.out HW_.out (by kernel_rfl)) (fun _ _ _ h => h) (Or.inl ⟨by rfl, ?_⟩) hHeld ?_ ?_; rotate_left
 ·rintro w' ⟨s0, s1, s2, s3⟩; go_simp; with_reducible rfl
 rotate_left
 ·simp only [Act.put, List.setIfInBounds_toArray, List.set_cons_zero, List.set_cons_succ, i64_w, i32_w]; rfl
 refine pure_ (i := 4) (N := some 20) (v := ?_) (a' := ?_) #[true, true, true, true, true, false, false, false] rfl rfl (any_of HT_.out (by kernel_rfl)) (fun _ _ _ h => h) (Or.inl ⟨by rfl, ?_⟩) ?_ ?_; rotate_left
 ·intro w'; go_simp; with_reducible rfl
 rotate_left
 ·simp only [Act.put, List.setIfInBounds_toArray, List.set_cons_zero, List.set_cons_succ, i64_w, i32_w]; rfl
 refine one_ (i := 5) (N := some 21) #[true, true, true, true, true, true, false, false] rfl rfl (one_of HT_.out (by kernel_rfl)) (by decide) (fun K hK => ?_)
 refine Kd.R_append_rows_step (Kd.int .i64) (w0 := w) w.heap.size (by rfl) (.tmp 17) (.tmp 20) 22 3 (.int .i64 0) 8 rfl Try.underlying22 info3 rfl (by decide) (by omega) (.slice none 0 0) ([] : List Int) (l0_0.drop 1) _ _ _ (fun k_ => (w.heap.size ≤ k_)) (fun _ => False) rfl rfl ?aO ?aR (fun _ _ h => h) (fun _ h => h.elim) ?aF ?aB ?aS ?aL ?_
 (case aR => first | (rw [← show (l0_0.drop 1).length = (l0_0.length - 1) from List.length_drop]; repeat (first | exact (Kd.C_below HR310.out HB.out) | exact (Kd.C_below HR306.out HB.out) | (with_reducible refine Kd.C_alloc ?_ _) | (with_reducible refine Kd.C_drewN ?_ _) | (with_reducible refine Kd.C_drew ?_))) | (repeat (first | exact (Kd.C_below HR310.out HB.out) | exact (Kd.C_below HR306.out HB.out) | (with_reducible refine Kd.C_alloc ?_ _) | (with_reducible refine Kd.C_drewN ?_ _) | (with_reducible refine Kd.C_drew ?_))))
 (case aB => exact (gB HB))
 (case aF => exact (fun k_ hk => (Nat.le_trans (below_size (gB HB)) hk)))
 (case aO => exact ((Kd.R_nil _ _ _ _ (fun k_ => (w.heap.size ≤ k_)))))
 (case aS => exact (below_size (gB HB)))
 (case aL => have := LMc6.out; have hlx_ := (show (l0_0.drop 1).length = (l0_0.length - 1) from List.length_drop); omega)
 intro v312 w24 ho hb hg hat
 rw [← Ny311.out] at ho
 replace HO0_1 := gA (Kd.V_afterv (Kd.V_apart_nil (gV HO0_1)) hg hat); replace BK304 := gA (blk_grown (gK BK304) hg (by simp [Value.ownBlock])); replace BK305 := gA (blk_grown (gK BK305) hg (by simp [Value.ownBlock])); replace BK309 := gA (blk_grown (gK BK309) hg (by simp [Value.ownBlock])); replace HB := gA (hb); have HO313 := gA (ho); clear ho hb hg hat
 obtain ⟨Ao25, co25, eo25⟩ := Kd.R_slice HO313.out
 (first | subst eo25 | (injection eo25 with f1_ f2_ f3_; have f4_ := f1_.symm; have f5_ := f3_.symm; clear f1_ f2_ f3_; subst f4_; subst f5_))
 refine hK.out _ _ ⟨(blk_cell BK309.out 0).trans rfl, (blk_cell BK309.out 1).trans rfl, (blk_cell BK304.out 0).trans rfl, (blk_cell BK304.out 1).trans rfl⟩ (fun hHeld => ?_); clear hK K
 refine norm_ (a' := ?_) ?_ ?_; rotate_left
 ·show Act.put _ (some 21) _ = _
  simp only [Act.put, List.setIfInBounds_toArray, List.set_cons_zero, List.set_cons_succ, i64_w, i32_w]; rfl
 refine pure_ (i := 6) (N := some 22) (v := ?_) (a' := ?_) #[true, true, true, true, true, true, true, false] rfl rfl (any_of HT_.out (by kernel_rfl)) (fun _ _ _ h => h) (Or.inl ⟨by rfl, ?_⟩) ?_ ?_; rotate_left
 ·intro w'; go_simp; with_reducible rfl
 rotate_left
 ·simp only [Act.put, List.setIfInBounds_toArray, List.set_cons_zero, List.set_cons_succ, i64_w, i32_w]; rfl
 refine last_ (i := 7) (N := none) #[true, true, true, true, true, true, true, true] rfl rfl (one_of HT_.out (by kernel_rfl)) (by decide) (fun K hK => ?_)
 have hs26 := gz BK309 0 rfl
 have hfs26 := blk_frozen BK309.out 0
 have hns26_0 := NB304_309.out
 have hns26_1 := NB305_309.out
 have hms26_0 := NB309_304.out
 have hms26_1 := NB309_305.out
 refine skip_ (w1 := ?_) (by rfl) rfl ?_ ?_; rotate_left
 ·go_simp; rfl
 refine hK.out _ _ ?_; clear hK K
 refine done_ (done_of HT_.out (by kernel_rfl)) ?_
 try go_wp2
 have n0_ : Aside0 (Kd.V k40 40 (w24.setCell ⟨gb309, 0, none⟩ (.slice Ao25 y311.length co25)) w.heap.size (fun k_ => (P0_1_ k_ ∨ w.heap.size ≤ k_) ∧ some k_ ≠ (.slice Ao25 y311.length co25 : Value).ownBlock ∧ k_ ≠ gb304 ∧ k_ ≠ gb305 ∧ k_ ≠ gb309) (.slice A0_1 l0_1.length c0_1) l0_1) := ⟨Kd.V_mono (Kd.V_far (p := ⟨gb309, 0, none⟩) (Kd.V_mono HO0_1.out (fun k_ hk => (⟨hk, hk.1.2.2.2⟩ : _ ∧ k_ ≠ gb309))) (fun _ hk => hk.2) (.slice Ao25 y311.length co25)) (fun _ hk => by first | exact ⟨hk.1.1.1, ⟨hk.1.2, ⟨hk.1.1.2.1, ⟨hk.1.1.2.2.1, hk.1.1.2.2.2⟩⟩⟩⟩ | (simp_all; done))⟩
 have n1_ : Aside0 (Kd.R (Kd.int .i64) 3 (w24.setCell ⟨gb309, 0, none⟩ (.slice Ao25 y311.length co25)) w.heap.size (fun k_ => (w.heap.size ≤ k_)) (.slice Ao25 y311.length co25) y311) := ⟨Kd.R_mono (Kd.R_far (p := ⟨gb309, 0, none⟩) (Kd.R_types HO313.out BK309.out (by decide)) (fun _ hk => hk.2) (.slice Ao25 y311.length co25)) (fun _ hk => hk.1)⟩
 have n2_ : Aside0 ((w24.setCell ⟨gb309, 0, none⟩ (.slice Ao25 y311.length co25)).heap[gb304]? = some (.cells #[.slice A0_0 l0_0.length c0_0, .slice A0_1 l0_1.length c0_1] 25 (0, 0))) := ⟨by refine blk_far ?_ NB304_309.out _; exact gK BK304⟩
 have n3_ : Aside0 ((w24.setCell ⟨gb309, 0, none⟩ (.slice Ao25 y311.length co25)).heap[gb305]? = some (.cells #[.slice none 0 0, .slice none 0 0] 25 (0, 0))) := ⟨by refine blk_far ?_ NB305_309.out _; exact gK BK305⟩
 have n4_ : Aside0 ((w24.setCell ⟨gb309, 0, none⟩ (.slice Ao25 y311.length co25)).heap[gb309]? = some (.cells #[.slice Ao25 y311.length co25, .slice none 0 0] 25 (0, 0))) := ⟨by refine blk_put (cs := #[.slice none 0 0, .slice none 0 0]) ?_ 0 _ rfl; exact gK BK309⟩
 have n5_ : Aside0 (Below w.heap.size w (w24.setCell ⟨gb309, 0, none⟩ (.slice Ao25 y311.length co25))) := ⟨by repeat first | exact gB HB | refine below_set ?_ GE304.out | refine below_set ?_ GE305.out | refine below_set ?_ GE309.out⟩
 (try clear HO0_1)
 generalize (w24.setCell ⟨gb309, 0, none⟩ (.slice Ao25 y311.length co25)) = w27 at n0_ n1_ n2_ n3_ n4_ n5_ ⊢
 have HO0_1 := n0_; have HO313 := n1_
 have BK304 := n2_; have BK305 := n3_
 have BK309 := n4_; have HB := n5_
 clear n0_ n1_ n2_ n3_ n4_ n5_
 replace HO0_1 := gA (Kd.V_drew HO0_1.out); replace HO313 := gA (Kd.R_drew HO313.out); replace BK304 := gA (blk_drew BK304.out); replace BK305 := gA (blk_drew BK305.out); replace BK309 := gA (blk_drew BK309.out); replace HB := gA (below_drew1 HB.out)
 have q29 : ((wrap64 ((ji7) + t307)) : Int) ≤ ((l0_1.length : Int) : Int) := of_decide_eq_true (by assumption)
 obtain ⟨i029, hi029, _, hsz29, _⟩ := info_parts info40
 have hroom29 : l0_1.length ≤ c0_1 := (Kd.V_reads' HO0_1.out).2.1
 have hC29 : Kd.F k40 _ _ A0_1 l0_1.length l0_1 := (Kd.V_at (base := w.heap.size) HO0_1.out).2.2
 have ql29 : ((ji7) : Int) ≤ ((wrap64 ((ji7) + t307)) : Int) := of_decide_eq_true (by assumption)
 have q029 : (0 : Int) ≤ ((ji7) : Int) := of_decide_eq_true (by assumption)
 have hcut29 := cut_mid (P := Try.prog) 23 40 .i64 .i64 Try.underlying23 hi029 3 hsz29 A0_1 l0_1.length c0_1 (ji7) (wrap64 ((ji7) + t307)) q029 ql29 q29 hroom29
 have hr29 := Kd.F_mid (lo := ((ji7) : Int).toNat) (hi := ((wrap64 ((ji7) + t307)) : Int).toNat) (c := c0_1) hC29 (by omega) (by omega) hroom29
 obtain ⟨A29, hA29⟩ : ∃ A1, A1 = (if c0_1 = ((ji7) : Int).toNat then A0_1 else (A0_1 : Option Addr).map (·.add (((ji7) : Int).toNat * 3))) := ⟨_, rfl⟩
 obtain ⟨c29, hc29⟩ : ∃ c1, c1 = c0_1 - ((ji7) : Int).toNat := ⟨_, rfl⟩
 have hy29 : y314.length = ((wrap64 ((ji7) + t307)) : Int).toNat - ((ji7) : Int).toNat := (by rw [Ny314.out, List.length_drop, List.length_take] <;> omega)
 rw [show ((l0_1).take ((wrap64 ((ji7) + t307)) : Int).toNat).drop ((ji7) : Int).toNat = y314 from Ny314.out.symm] at hr29
 replace hr29 : Kd.F k40 _ _ A29 y314.length y314 := (by rw [hA29]; exact hr29)
 rw [← hy29, ← hA29, ← hc29] at hcut29
 have HO318 := gA (show Kd.V k40 40 _ w.heap.size _ (.slice A29 y314.length c29) y314 from Kd.V_mk (by rw [hy29, hc29]; exact Nat.sub_le_sub_right (Nat.le_trans (by omega) hroom29) _) hr29)
 have HC318 := gA (show y314.length ≤ c29 from by rw [hy29, hc29]; exact Nat.sub_le_sub_right (Nat.le_trans (by omega) hroom29) _)
 clear hr29 hC29 hroom29 hi029 hsz29 hc29
 have KY29 := gA hy29
 have KA29 := gA hA29
 clear hy29 hA29
 replace q29 := eq_true q29
 refine start_ (n := 16) (S := fun w' => w'.cell? ⟨gb309, 0, none⟩ = some (.slice Ao25 y311.length co25) ∧ w'.cell? ⟨gb309, 1, none⟩ = some (.slice none 0 0) ∧ w'.cell? ⟨gb304, 0, none⟩ = some (.slice A0_0 l0_0.length c0_0) ∧ w'.cell? ⟨gb304, 1, none⟩ = some (.slice A0_1 l0_1.length c0_1)) (ds := [15]) #[false, false, false, false, false, false, false, false, false, false, false, false, false, false, false, false] (by kernel_rfl) rfl rfl ⟨(blk_cell BK309.out 0).trans rfl, (blk_cell BK309.out 1).trans rfl, (blk_cell BK304.out 0).trans rfl, (blk_cell BK304.out 1).trans rfl⟩ (fun hHeld => ?_); refine with_tabW triglyphref05_Item.tab4 triglyphref05_Item.bits4 (fun HT_ HW_ => ?_)
 generalize w27.drew = w28 at HO0_1 HO313 BK304 BK305 BK309 HB HO318 hHeld ⊢
 refine pure_ (i := 0) (N := some 23) (v := ?_) (a' := ?_) #[true, false, false, false, false, false, false, false, false, false, false, false, false, false, false, false] rfl rfl (any_of HT_.out (by kernel_rfl)) (fun _ _ _ h => h) (Or.inl ⟨by rfl, ?_⟩) ?_ ?_; rotate_left
 ·intro w'; go_simp; with_reducible rfl
 rotate_left
 ·simp only [Act.put, List.setIfInBounds_toArray, List.set_cons_zero, List.set_cons_succ, i64_w, i32_w]; rfl
 refine pure_ (i := 2) (N := some 25) (v := ?_) (a' := ?_) #[true, false, true, false, false, false, false, false, false, false, false, false, false, false, false, false] rfl rfl (any_of HT_.out (by kernel_rfl)) (fun _ _ _ h => h) (Or.inl ⟨by rfl, ?_⟩) ?_ ?_; rotate_left
 ·intro w'; go_simp; with_reducible rfl
 rotate_left
 ·simp only [Act.put, List.setIfInBounds_toArray, List.set_cons_zero, List.set_cons_succ, i64_w, i32_w]; rfl
 refine pure_ (i := 4) (N := some 27) (v := ?_) (a' := ?_) #[true, false, true, false, true, false, false, false, false, false, false, false, false, false, false, false] rfl rfl (any_of HT_.out (by kernel_rfl)) (fun _ _ _ h => h) (Or.inl ⟨by rfl, ?_⟩) ?_ ?_; rotate_left
 ·intro w'; go_simp; with_reducible rfl
 rotate_left
 ·simp only [Act.put, List.setIfInBounds_toArray, List.set_cons_zero, List.set_cons_succ, i64_w, i32_w]; rfl
 refine pure_ (i := 5) (N := some 28) (v := ?_) (a' := ?_) #[true, false, true, false, true, true, false, false, false, false, false, false, false, false, false, false] rfl rfl (any_of HT_.out (by kernel_rfl)) (fun _ _ _ h => h) (Or.inl ⟨by rfl, ?_⟩) ?_ ?_; rotate_left
 ·intro w'; go_simp; with_reducible rfl
 rotate_left
 ·simp only [Act.put, List.setIfInBounds_toArray, List.set_cons_zero, List.set_cons_succ, i64_w, i32_w]; rfl
 refine pure_ (i := 6) (N := some 29) (v := ?_) (a' := ?_) #[true, false, true, false, true, true, true, false, false, false, false, false, false, false, false, false] rfl rfl (any_of HT_.out (by kernel_rfl)) (fun _ _ _ h => h) (Or.inl ⟨by rfl, ?_⟩) ?_ ?_; rotate_left
 ·intro w'; go_simp; with_reducible rfl
 rotate_left
 ·simp only [Act.put, List.setIfInBounds_toArray, List.set_cons_zero, List.set_cons_succ, i64_w, i32_w]; rfl
 refine pure_ (i := 7) (N := some 30) (v := ?_) (a' := ?_) #[true, false, true, false, true, true, true, true, false, false, false, false, false, false, false, false] rfl rfl (any_of HT_.out (by kernel_rfl)) (fun _ _ _ h => h) (Or.inl ⟨by rfl, ?_⟩) ?_ ?_; rotate_left
 ·intro w'; go_simp; with_reducible rfl
 rotate_left
 ·simp only [Act.put, List.setIfInBounds_toArray, List.set_cons_zero, List.set_cons_succ, i64_w, i32_w]; rfl
 refine pure_ (i := 8) (N := some 31) (v := ?_) (a' := ?_) #[true, false, true, false, true, true, true, true, true, false, false, false, false, false, false, false] rfl rfl (any_of HT_.out (by kernel_rfl)) (fun _ _ _ h => h) (Or.inl ⟨by rfl, ?_⟩) ?_ ?_; rotate_left
 ·intro w'; go_simp; with_reducible rfl
 rotate_left
 ·simp only [Act.put, List.setIfInBounds_toArray, List.set_cons_zero, List.set_cons_succ, i64_w, i32_w]; rfl
 refine pure_ (i := 9) (N := some 32) (v := ?_) (a' := ?_) #[true, false, true, false, true, true, true, true, true, true, false, false, false, false, false, false] rfl rfl (any_of HT_.out (by kernel_rfl)) (fun _ _ _ h => h) (Or.inl ⟨by rfl, ?_⟩) ?_ ?_; rotate_left
 ·intro w'; go_simp; with_reducible rfl
 rotate_left
 ·simp only [Act.put, List.setIfInBounds_toArray, List.set_cons_zero, List.set_cons_succ, i64_w, i32_w]; rfl
 refine pure_ (i := 10) (N := some 33) (v := ?_) (a' := ?_) #[true, false, true, false, true, true, true, true, true, true, true, false, false, false, false, false] rfl rfl (any_of HT_.out (by kernel_rfl)) (fun _ _ _ h => h) (Or.inl ⟨by rfl, ?_⟩) ?_ ?_; rotate_left
 ·intro w'; go_simp; with_reducible rfl
 rotate_left
 ·simp only [Act.put, List.setIfInBounds_toArray, List.set_cons_zero, List.set_cons_succ, i64_w, i32_w]; rfl
 refine pure_ (i := 11) (N := some 34) (v := ?_) (a' := ?_) #[true, false, true, false, true, true, true, true, true, true, true, true, false, false, false, false] rfl rfl (any_of HT_.out (by kernel_rfl)) (fun _ _ _ h => h) (Or.inl ⟨by rfl, ?_⟩) ?_ ?_; rotate_left
 ·intro w'; go_simp; with_reducible rfl
 rotate_left
 ·simp only [Act.put, List.setIfInBounds_toArray, List.set_cons_zero, List.set_cons_succ, i64_w, i32_w]; rfl
 refine take_ (i := 1) (N := some 24) (v := ?_) (a' := ?_) #[true, true, true, false, true, true, true, true, true, true, true, true, false, false, false, false] rfl rfl (take_ofW HT_.out HW_.out (by kernel_rfl)) (fun _ _ _ h => h) (Or.inl ⟨by rfl, ?_⟩) hHeld ?_ ?_; rotate_left
 ·rintro w' ⟨s0, s1, s2, s3⟩; go_simp; with_reducible rfl
 rotate_left
 ·simp only [Act.put, List.setIfInBounds_toArray, List.set_cons_zero, List.set_cons_succ, i64_w, i32_w]; rfl
 refine take_ (i := 3) (N := some 26) (v := ?_) (a' := ?_) #[true, true, true, true, true, true, true, true, true, true, true, true, false, false, false, false] rfl rfl (take_ofW HT_.out HW_.out (by kernel_rfl)) (fun _ _ _ h => h) (Or.inl ⟨by rfl, ?_⟩) hHeld ?_ ?_; rotate_left
 ·rintro w' ⟨s0, s1, s2, s3⟩; go_simp; with_reducible rfl
 rotate_left
 ·simp only [Act.put, List.setIfInBounds_toArray, List.set_cons_zero, List.set_cons_succ, i64_w, i32_w]; rfl
 refine pure_ (i := 12) (N := some 35) (v := ?_) (a' := ?_) #[true, true, true, true, true, true, true, true, true, true, true, true, true, false, false, false] rfl rfl (any_of HT_.out (by kernel_rfl)) (fun _ _ _ h => h) (Or.inl ⟨by rfl, ?_⟩) ?_ ?_; rotate_left
 ·intro w'; go_simp; with_reducible rfl
 rotate_left
 ·simp only [Act.put, List.setIfInBounds_toArray, List.set_cons_zero, List.set_cons_succ, i64_w, i32_w]; rfl
 refine one_ (i := 13) (N := some 36) #[true, true, true, true, true, true, true, true, true, true, true, true, true, true, false, false] rfl rfl (one_of HT_.out (by kernel_rfl)) (by decide) (fun K hK => ?_)
 refine Kd.N_append_rows_step k40 (w0 := w) w.heap.size (by rfl) (.tmp 24) (.tmp 35) 23 40 (.agg #[(.int .i64 0), (.int .i64 0), (.slice none 0 0)]) 40 rfl Try.underlying23 info40 rfl (by decide) (by omega) (.slice none 0 0) ([] : List (S40)) y314 _ _ _ (fun k_ => (P0_1_ k_ ∨ w.heap.size ≤ k_) ∧ some k_ ≠ (.slice Ao25 y311.length co25 : Value).ownBlock ∧ k_ ≠ gb304 ∧ k_ ≠ gb305 ∧ k_ ≠ gb309) (fun k_ => ((fun k_ => (P0_1_ k_ ∨ w.heap.size ≤ k_) ∧ some k_ ≠ (.slice Ao25 y311.length co25 : Value).ownBlock ∧ k_ ≠ gb304 ∧ k_ ≠ gb305 ∧ k_ ≠ gb309)) k_ ∧ some k_ ≠ (.slice none 0 0 : Value).ownBlock) rfl rfl ?aO ?aR (fun _ hk => hk) ?aF ?aB ?aS ?aL ?_
 (case aR => exact (by skip; exact Kd.V_F (Kd.V_mono (ok' := (fun k_ => ((fun k_ => (P0_1_ k_ ∨ w.heap.size ≤ k_) ∧ some k_ ≠ (.slice Ao25 y311.length co25 : Value).ownBlock ∧ k_ ≠ gb304 ∧ k_ ≠ gb305 ∧ k_ ≠ gb309)) k_ ∧ some k_ ≠ (.slice none 0 0 : Value).ownBlock)) (HO318.out) (fun k_ hk => ⟨⟨hk.1, ⟨hk.2.1, ⟨hk.2.2.1, ⟨hk.2.2.2.1, hk.2.2.2.2⟩⟩⟩⟩, (by simp [Value.ownBlock])⟩))))
 (case aB => exact (gB HB))
 (case aF => exact (fun k_ hk => ⟨(.inr (Nat.le_trans (below_size (gB HB)) hk)), Kd.fresh' (Kd.R_lt (gR HO313)) k_ hk, Kd.freshB (gK BK304) k_ hk, Kd.freshB (gK BK305) k_ hk, Kd.freshB (gK BK309) k_ hk⟩))
 (case aO => exact ((Kd.N_nil _ _ _ _ (fun k_ => (P0_1_ k_ ∨ w.heap.size ≤ k_) ∧ some k_ ≠ (.slice Ao25 y311.length co25 : Value).ownBlock ∧ k_ ≠ gb304 ∧ k_ ≠ gb305 ∧ k_ ≠ gb309))))
 (case aS => exact (below_size (gB HB)))
 (case aL => have := LMc11.out; omega)
 intro v320 w30 ho hb hg hat
 rw [← Ny319.out] at ho
 replace HO0_1 := gA (Kd.V_afterv (Kd.V_apart_nil (gV HO0_1)) hg hat); replace BK304 := gA (blk_grown (gK BK304) hg (by simp [Value.ownBlock])); replace BK305 := gA (blk_grown (gK BK305) hg (by simp [Value.ownBlock])); replace BK309 := gA (blk_grown (gK BK309) hg (by simp [Value.ownBlock])); replace HO313 := gA (Kd.R_grown (gR HO313) hg (fun _ _ => by simp [Value.ownBlock])); replace HO318 := gA (Kd.V_afterv (Kd.V_apart_nil (gV HO318)) hg hat); replace HB := gA (hb); have HO321 := gA (ho); clear ho hb hg hat
 obtain ⟨Ao31, co31, eo31⟩ := Kd.N_slice HO321.out
 (first | subst eo31 | (injection eo31 with f1_ f2_ f3_; have f4_ := f1_.symm; have f5_ := f3_.symm; clear f1_ f2_ f3_; subst f4_; subst f5_))
 refine hK.out _ _ ⟨(blk_cell BK309.out 0).trans rfl, (blk_cell BK309.out 1).trans rfl, (blk_cell BK304.out 0).trans rfl, (blk_cell BK304.out 1).trans rfl⟩ (fun hHeld => ?_); clear hK K
 refine norm_ (a' := ?_) ?_ ?_; rotate_left
 ·show Act.put _ (some 36) _ = _
  simp only [Act.put, List.setIfInBounds_toArray, List.set_cons_zero, List.set_cons_succ, i64_w, i32_w]; rfl
 refine pure_ (i := 14) (N := some 37) (v := ?_) (a' := ?_) #[true, true, true, true, true, true, true, true, true, true, true, true, true, true, true, false] rfl rfl (any_of HT_.out (by kernel_rfl)) (fun _ _ _ h => h) (Or.inl ⟨by rfl, ?_⟩) ?_ ?_; rotate_left
 ·intro w'; go_simp; with_reducible rfl
 rotate_left
 ·simp only [Act.put, List.setIfInBounds_toArray, List.set_cons_zero, List.set_cons_succ, i64_w, i32_w]; rfl
 refine last_ (i := 15) (N := none) #[true, true, true, true, true, true, true, true, true, true, true, true, true, true, true, true] rfl rfl (one_of HT_.out (by kernel_rfl)) (by decide) (fun K hK => ?_)
 have hs32 := gz BK309 1 rfl
 have hfs32 := blk_frozen BK309.out 1
 have hns32_0 := NB304_309.out
 have hns32_1 := NB305_309.out
 have hms32_0 := NB309_304.out
 have hms32_1 := NB309_305.out
 refine skip_ (w1 := ?_) (by rfl) rfl ?_ ?_; rotate_left
 ·go_simp; rfl
 refine hK.out _ _ ?_; clear hK K
 refine done_ (done_of HT_.out (by kernel_rfl)) ?_
 obtain ⟨hcz33_0, hcz33_1, hfz33_0, hfz33_1⟩ := gz2 BK309
 obtain ⟨hcz34_0, hcz34_1, hfz34_0, hfz34_1⟩ := gz2 BK305
 try go_wp2
 refine bodyPost_ret (results_cell_row rfl _ _ gb305 25 #[.slice Ao25 y311.length co25, .slice Ao31 y319.length co31] (0, 0) _ rfl (by refine blk_put (cs := #[.slice Ao25 y311.length co25, .slice none 0 0]) ?_ 1 _ rfl; refine blk_put (cs := #[.slice none 0 0, .slice none 0 0]) ?_ 0 _ rfl; refine blk_far ?_ NB305_309.out _; exact gK BK305) Try.underlying25 rfl (by kernel_rfl)) rfl ?_
 exact ⟨_, _, by first | rfl | (simp [errW_none, errW_some] <;> rfl) | (simp only [← hji7]; first | rfl | (simp [errW_none, errW_some] <;> rfl)) | (simp [*, errW_none, errW_some] <;> rfl), Kd.R_mono (Kd.R_far (p := ⟨gb305, 1, none⟩) (Kd.R_far (p := ⟨gb305, 0, none⟩) (Kd.R_far (p := ⟨gb309, 1, none⟩) (Kd.R_types (Kd.R_types HO313.out BK309.out (by decide)) BK305.out (by decide)) (fun _ hk => hk.1.2) (.slice Ao31 y319.length co31)) (fun _ hk => hk.2) (.slice Ao25 y311.length co25)) (fun _ hk => hk.2) (.slice Ao31 y319.length co31)) (fun _ hk => hk.1.1), Kd.N_mono (Kd.N_far (p := ⟨gb305, 1, none⟩) (Kd.N_far (p := ⟨gb305, 0, none⟩) (Kd.N_far (p := ⟨gb309, 1, none⟩) (Kd.N_mono (Kd.N_mono HO321.out (fun k_ hk => (⟨hk, hk.2.2.2.2⟩ : _ ∧ k_ ≠ gb309))) (fun k_ hk => (⟨hk, hk.1.2.2.2.1⟩ : _ ∧ k_ ≠ gb305))) (fun _ hk => hk.1.2) (.slice Ao31 y319.length co31)) (fun _ hk => hk.2) (.slice Ao25 y311.length co25)) (fun _ hk => hk.2) (.slice Ao31 y319.length co31)) (fun _ hk => by first | exact ⟨hk.1.1.1, hk.1.1.2.1⟩ | (simp_all; done)), by repeat first | exact gB HB | refine below_set ?_ GE304.out | refine below_set ?_ GE305.out | refine below_set ?_ GE309.out⟩
end Go.Proofs.Ytbijepjnbolpiaa.P
