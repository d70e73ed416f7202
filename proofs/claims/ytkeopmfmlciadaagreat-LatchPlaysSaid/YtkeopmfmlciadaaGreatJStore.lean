/-
  Layer 5, the store: what it is when others' blocks turn. No statement is proved here; no condition.
-/
import Derived.Test.YtkeopmfmlciadaaGreatJCode
import Derived.Test.YtkeopmfmlciadaaGreatJBase
import Derived.Test.YtkeopmfmlciadaaGreatJBaseA
import Derived.Test.YtkeopmfmlciadaaGreatJWalC
import Derived.Deep.Fields
import Derived.Deep.QuietTactic
import Derived.StringKeys
import Derived.Deep.DeepCutAuto
namespace Go.Proofs.YtkeopmfmlciadaaGreat
open Go.RowKit

/-- A pair: a key, its value, or that it goes. -/
structure Pr where
  key : List UInt8
  value : List UInt8
  gone : Bool

def Pr.agg (p : Pr) : Value := .agg #[.string ⟨p.key.toArray⟩, .string ⟨p.value.toArray⟩, .bool p.gone]

/-- Its record. -/
def pairB (p : Pr) : List UInt8 := boolB p.gone ++ (textB p.key ++ if p.gone then [] else textB p.value)

/-- What is read of it. -/
def Pr.norm (p : Pr) : Pr := ⟨p.key, if p.gone then [] else p.value, p.gone⟩

theorem textB_len (s : List UInt8) (h : s.length ≤ 10000000) : (textB s).length ≤ s.length + 10 := by
  have := numB_bound s.length (by omega)
  unfold textB
  rw [List.length_append]; omega

theorem pairB_len (p : Pr) (h1 : p.key.length ≤ 10000000) (h2 : p.value.length ≤ 10000000) : (pairB p).length ≤ p.key.length + p.value.length + 21 := by
  have a := textB_len p.key h1
  have b := textB_len p.value h2
  unfold pairB
  cases p.gone with
  | true => simp only [List.length_append, boolB, if_true, List.length_nil, List.length_cons]; omega
  | false => simp only [List.length_append, boolB, Bool.false_eq_true, if_false, List.length_nil, List.length_cons]; omega

theorem str_of_list (l : List UInt8) : (⟨l.toArray⟩ : ByteArray).data.toList = l := rfl
theorem str_size_list (l : List UInt8) : (⟨l.toArray⟩ : ByteArray).size = l.length := by rw [str_size]

set_option maxRecDepth 100000 in
set_option maxHeartbeats 4000000 in
theorem pbytes_any (p : Pr) (w : World) (h1 : p.key.length ≤ 10000000) (h2 : p.value.length ≤ 10000000) :
    Calls Tryz.prog 37 #[p.agg] w fun e w' => ∃ v, e = .returned v ∧ w'.ownsRow w.heap.size 5 1 v (pairB p).length (bv (pairB p)) ∧ Mod No w w' := by
  refine calls_hide fun R hR => ?_
  obtain ⟨k, x, g⟩ := p
  dsimp only at h1 h2
  unfold Pr.agg
  dsimp only
  have hks := str_size_list k
  have hxs := str_size_list x
  obtain ⟨K, hK⟩ : ∃ K : ByteArray, K = ⟨k.toArray⟩ := ⟨_, rfl⟩
  obtain ⟨X, hX⟩ : ∃ X : ByteArray, X = ⟨x.toArray⟩ := ⟨_, rfl⟩
  rw [← hK] at hks ⊢
  rw [← hX] at hxs ⊢
  have HKL := Lib.hid (show K.data.toList = k by rw [hK])
  have HXL := Lib.hid (show X.data.toList = x by rw [hX])
  have HKS := Lib.hid hks
  have HXS := Lib.hid hxs
  have hmb : ∀ (l : List UInt8), l.length ≤ 10000000 → (textB l).length ≤ 10000010 := fun l h => by have := textB_len l h; omega
  have HTB := Lib.hid hmb
  clear hK hX hks hxs hmb
  obtain ⟨w1, hw1⟩ : ∃ w1, w1 = w.alloc (.cells #[.string K, .string X, .bool g] 32) := ⟨_, rfl⟩
  have hp1 : w1.heap[w.heap.size]? = some (.cells #[.string K, .string X, .bool g] 32 (0, 0)) := by rw [hw1]; exact heap_alloc_new w _
  have HM1 := Lib.hid (show Mod No w w1 by rw [hw1]; exact (Mod.refl No w).alloc _)
  have HP1 := Lib.hid hp1
  have HZ1 := Lib.hid (show w1.heap.size = w.heap.size + 1 by rw [hw1]; simp)
  have HW1 := Lib.hid hw1
  clear hp1 hw1
  go_enter Tryz.func37, Tryz.ntmps37
  go_wp2_with fail
  rw [← HW1.out]
  with_reducible refine (newWriter_any w1).mono ?_
  rintro e w2 ⟨rfl, hwr, hm2⟩
  obtain ⟨base, hbase⟩ : ∃ base, base = w1.heap.size := ⟨_, rfl⟩
  rw [← hbase] at hwr ⊢
  have HBASE := Lib.hid hbase
  have hp2 := hm2.keep HP1.out (fun f => f)
  have c2 := cell_of (i := 2) hp2 rfl
  have m23 : Mod No w2 (w2.alloc (.cells #[.bool g] 4)) := (Mod.refl No w2).alloc _
  have hb2 : base ≤ (w2.alloc (.cells #[.bool g] 4)).heap.size := by have := hm2.size; simp; omega
  have HB := Lib.hid (wbool_any (c := 1) (hwr.stay m23) (by decide) hb2 (cell_of (i := 0) (xs := [.bool g]) (heap_alloc_new w2 _) rfl))
  have HM2 := Lib.hid (hm2.trans m23)
  have HP2 := Lib.hid (m23.keep hp2 (fun f => f))
  clear hwr hm2 hp2 m23 hbase hb2
  go_wp2_with fail
  with_reducible refine HB.out.mono ?_
  clear HB
  rintro e w3 ⟨v3, rfl, hw3, hm3⟩
  have hp3 := hm3.keep HP2.out (fun e => by have := HBASE.out; have := HZ1.out; omega)
  have c0 := cell_of (i := 0) hp3 rfl
  have m34 : Mod No w3 (w3.alloc (.cells #[.string K] 9)) := (Mod.refl No w3).alloc _
  have hb3 : base ≤ (w3.alloc (.cells #[.string K] 9)).heap.size := by have := hm3.size; have := HM2.out.size; have := HBASE.out; simp at *; omega
  have HT := Lib.hid (wtext_any (c := 1) (s := K) (hw3.stay m34) (by simp [boolB]) hb3 (cell_of (i := 0) (xs := [.string K]) (heap_alloc_new w3 _) rfl) (by rw [HKS.out]; exact h1))
  have HM3 := Lib.hid ((HM2.out.then hm3 (fun i hi e => by have := HBASE.out; omega)).trans m34)
  have HP3 := Lib.hid (m34.keep hp3 (fun f => f))
  clear hw3 hm3 hp3 m34 hb3 c2
  go_wp2_with fail
  with_reducible refine HT.out.mono ?_
  clear HT
  rintro e w4 ⟨v4, rfl, hw4, hm4⟩
  rw [HKL.out] at hw4
  have hp4 := hm4.keep HP3.out (fun e => by have := HBASE.out; have := HZ1.out; omega)
  have c2 := cell_of (i := 2) hp4 rfl
  have c1 := cell_of (i := 1) hp4 rfl
  have HM4 := Lib.hid (HM3.out.then hm4 (fun i hi e => by have := HBASE.out; omega))
  have hlen4 : ([] ++ boolB g ++ textB k).length ≤ 10000020 := by
    have := HTB.out k h1
    simp only [List.nil_append, List.length_append, boolB, List.length_cons, List.length_nil]; omega
  have HP4 := Lib.hid hp4
  have HW4 := Lib.hid hw4
  have HL4 := Lib.hid hlen4
  clear hw4 hm4 hp4 c0 hlen4
  cases g with
  | true =>
    have HB := Lib.hid (wbytes_any HW4.out (by have := HL4.out; omega))
    go_wp2_with fail
    with_reducible refine HB.out.mono ?_
    clear HB
    rintro e w5 ⟨v5, rfl, ho, hm5⟩
    have hlist : [] ++ boolB true ++ textB k = pairB ⟨k, x, true⟩ := by unfold pairB; simp
    rw [hlist] at ho
    have HO := Lib.hid ho
    have HM5 := Lib.hid (HM1.out.trans (HM4.out.trans hm5))
    have HZ4 := Lib.hid HM4.out.size
    clear ho hm5 hlist
    go_wp2_with fail
    refine fin hR ⟨_, rfl, ⟨HO.out.1, HO.out.2.imp (fun h => h) ?_⟩, HM5.out⟩
    rintro ⟨g, cap, cur, hv, hg, r⟩
    exact ⟨g, cap, cur, hv, by have := HZ4.out; have := HZ1.out; omega, r⟩
  | false =>
    have m45 : Mod No w4 (w4.alloc (.cells #[.string X] 9)) := (Mod.refl No w4).alloc _
    have hb4 : base ≤ (w4.alloc (.cells #[.string X] 9)).heap.size := by have := HM4.out.size; have := HBASE.out; simp; omega
    have HT := Lib.hid (wtext_any (c := 1) (s := X) (HW4.out.stay m45) (by have := HL4.out; omega) hb4 (cell_of (i := 0) (xs := [.string X]) (heap_alloc_new w4 _) rfl) (by rw [HXS.out]; exact h2))
    have HM45 := Lib.hid (HM4.out.trans m45)
    clear m45 hb4
    go_wp2_with fail
    with_reducible refine HT.out.mono ?_
    clear HT
    rintro e w5 ⟨v5, rfl, hw5, hm5⟩
    rw [HXL.out] at hw5
    have HM5 := Lib.hid (HM45.out.then hm5 (fun i hi e => by have := HBASE.out; omega))
    have HB := Lib.hid (wbytes_any hw5 (by have := HL4.out; have := HTB.out x h2; rw [List.length_append]; omega))
    clear hw5 hm5
    go_wp2_with fail
    with_reducible refine HB.out.mono ?_
    clear HB
    rintro e w6 ⟨v6, rfl, ho, hm6⟩
    have hlist : [] ++ boolB false ++ textB k ++ textB x = pairB ⟨k, x, false⟩ := by unfold pairB; simp
    rw [hlist] at ho
    have HO := Lib.hid ho
    have HM6 := Lib.hid (HM1.out.trans (HM5.out.trans hm6))
    have HZ5 := Lib.hid HM5.out.size
    clear ho hm6 hlist
    go_wp2_with fail
    refine fin hR ⟨_, rfl, ⟨HO.out.1, HO.out.2.imp (fun h => h) ?_⟩, HM6.out⟩
    rintro ⟨g, cap, cur, hv, hg, r⟩
    exact ⟨g, cap, cur, hv, by have := HZ5.out; have := HZ1.out; omega, r⟩

end Go.Proofs.YtkeopmfmlciadaaGreat
namespace Go.Proofs.YtkeopmfmlciadaaGreat
open Go.RowKit

set_option maxRecDepth 100000 in
set_option maxHeartbeats 4000000 in
theorem pair_any {w : World} {X : Nat → Prop} {v : Value} (p : Pr) (h1 : p.key.length ≤ 10000000) (h2 : p.value.length ≤ 10000000) (h : Sl w X 5 v (pairB p).length (bv (pairB p))) :
    Calls Tryz.prog 34 #[v] w fun e w' => e = .returned (.tuple #[p.norm.agg, .bool true]) ∧ Mod No w w' := by
  refine calls_hide fun R hR => ?_
  have hpl := pairB_len p h1 h2
  obtain ⟨w1, hw1⟩ : ∃ w1, w1 = w.alloc (.cells #[.string ⟨#[]⟩, .string ⟨#[]⟩, .bool false] 32) := ⟨_, rfl⟩
  have m1 : Mod No w w1 := by rw [hw1]; exact (Mod.refl No w).alloc _
  have HP1 := Lib.hid (show w1.heap[w.heap.size]? = some (.cells #[.string ⟨#[]⟩, .string ⟨#[]⟩, .bool false] 32 (0, 0)) by rw [hw1]; exact heap_alloc_new w _)
  have HN := Lib.hid (newReader_any (h.keep m1 (fun _ _ _ f => f.elim)) (by omega))
  have HM1 := Lib.hid m1
  have HW1 := Lib.hid hw1
  have HPL := Lib.hid hpl
  have HZ1 := Lib.hid (show w1.heap.size = w.heap.size + 1 by rw [hw1]; simp)
  obtain ⟨va, vc, rfl⟩ := h.len
  clear m1 hw1 h hpl
  go_enter Tryz.func34, Tryz.ntmps34
  go_wp2_with fail
  rw [← HW1.out]
  with_reducible refine HN.out.mono ?_
  clear HN
  rintro e w2 ⟨q, v2, rfl, hrd, hm2, hq⟩
  have HB := Lib.hid (rbool_ok hrd (by have := HPL.out; omega))
  have HM2 := Lib.hid (HM1.out.trans hm2)
  have HP2 := Lib.hid (hm2.keep HP1.out (fun f => f))
  have HQ := Lib.hid hq
  clear hrd hm2 hq
  go_wp2_with fail
  with_reducible refine HB.out.mono ?_
  clear HB
  rintro e w3 ⟨hm3, ⟨o, L', v3, hn, rfl, hrd⟩ | ⟨hn, -⟩⟩
  case inr => unfold pairB at hn; rw [rdBool_bool] at hn; cases hn
  obtain ⟨rfl, rfl⟩ : o = p.gone ∧ L' = textB p.key ++ (if p.gone then [] else textB p.value) := by
    unfold pairB at hn; rw [rdBool_bool] at hn; cases hn; exact ⟨rfl, rfl⟩
  have HLT := Lib.hid (show (textB p.key ++ (if p.gone then [] else textB p.value)).length ≤ 1000000000 by
    have := HPL.out
    unfold pairB at this; rw [List.length_append] at this; omega)
  have HT := Lib.hid (rtext_ok hrd HLT.out)
  have HM3 := Lib.hid (HM2.out.then hm3 (fun i hi e => by have := HQ.out; have := HZ1.out; omega))
  have HP3 := Lib.hid (hm3.keep HP2.out (fun e => by have := HQ.out; have := HZ1.out; omega))
  clear hn hrd hm3
  go_wp2_with fail
  with_reducible refine HT.out.mono ?_
  clear HT
  rintro e w4 ⟨hm4, ⟨s, L', v4, hn, rfl, hrd⟩ | ⟨hn, -⟩⟩
  case inr => rw [rdText_text _ _ (by omega)] at hn; cases hn
  obtain ⟨rfl, rfl⟩ : s = p.key ∧ L' = if p.gone then [] else textB p.value := by
    rw [rdText_text _ _ (by omega)] at hn; cases hn; exact ⟨rfl, rfl⟩
  have HM4 := Lib.hid (HM3.out.then hm4 (fun i hi e => by have := HQ.out; have := HZ1.out; omega))
  have HP4 := Lib.hid (hm4.keep HP3.out (fun e => by have := HQ.out; have := HZ1.out; omega))
  obtain ⟨k, x, g⟩ := p
  obtain ⟨P0, hPP⟩ : ∃ P0, P0 = w.heap.size := ⟨_, rfl⟩
  have HPP := Lib.hid hPP
  have HP4 := Lib.hid (show w4.heap[P0]? = some (.cells #[.string ⟨#[]⟩, .string ⟨#[]⟩, .bool false] 32 (0, 0)) by rw [hPP]; exact HP4.out)
  have hq0 : ¬ q = P0 := by have := HQ.out; have := HZ1.out; omega
  rw [← hPP]
  clear hPP
  obtain ⟨b5, hb⟩ : ∃ b5, b5 = w4.heap.size := ⟨_, rfl⟩
  have hb5 : ¬ b5 = P0 := by have := lt_of_heap HP4.out; omega
  cases g with
  | true =>
    replace hrd : RdAt w4 q v4 [] false := hrd
    obtain ⟨w5, hw5⟩ : ∃ w5, w5 = w4.alloc (.cells #[.string ⟨k.toArray⟩, .string ⟨#[]⟩, .bool true] 32) := ⟨_, rfl⟩
    have m5 : Mod No w4 w5 := by rw [hw5]; exact (Mod.refl No w4).alloc _
    have h55 : w5.heap[b5]? = some (.cells #[.string ⟨k.toArray⟩, .string ⟨#[]⟩, .bool true] 32 (0, 0)) := by rw [hw5, hb]; exact heap_alloc_new w4 _
    have hrd := hrd.stay m5
    have hP0 := m5.keep HP4.out (fun f => f)
    have hm5 := HM4.out.trans m5
    have HX5 := Lib.hid hw5
    have HBB := Lib.hid hb
    clear hw5 m5 hb hn hm4
    go_upto_region 5 with fail
    rw [← HX5.out, ← HBB.out]
    have HW5 := Lib.hid h55
    have hS0 : w5.drew.cell? ⟨b5, 0, none⟩ = some (.string (⟨k.toArray⟩ : ByteArray)) ∧ w5.drew.cell? ⟨b5, 1, none⟩ = some (.string ⟨#[]⟩) ∧ w5.drew.cell? ⟨b5, 2, none⟩ = some (.bool true) := ⟨cell_of (i := 0) h55 rfl, cell_of (i := 1) h55 rfl, cell_of (i := 2) h55 rfl⟩
    obtain ⟨W1, hW1⟩ : ∃ W1, W1 = (((w5.setCell ⟨P0, 0, none⟩ (.string (⟨k.toArray⟩ : ByteArray))).setCell ⟨P0, 1, none⟩ (.string ⟨#[]⟩)).setCell ⟨P0, 2, none⟩ (.bool true)).drew := ⟨_, rfl⟩
    have hm1 : Mod (fun i => i = P0) w5 W1 := by rw [hW1]; exact ((((Mod.refl (fun i => i = P0) w5).setCell (fun _ => rfl) _).setCell (fun _ => rfl) _).setCell (fun _ => rfl) _).drew
    have hS1 : W1.cell? ⟨b5, 0, none⟩ = some (.string (⟨k.toArray⟩ : ByteArray)) ∧ W1.cell? ⟨b5, 1, none⟩ = some (.string ⟨#[]⟩) ∧ W1.cell? ⟨b5, 2, none⟩ = some (.bool true) := ⟨hm1.cell (cell_of (i := 0) h55 rfl) hb5, hm1.cell (cell_of (i := 1) h55 rfl) hb5, hm1.cell (cell_of (i := 2) h55 rfl) hb5⟩
    have HD0 := rdone_any (hrd.stay (Mod.refl No w5).drew)
    have h1P : W1.heap[P0]? = some (.cells #[.string (⟨k.toArray⟩ : ByteArray), .string ⟨#[]⟩, .bool true] 32 (0, 0)) := by
      rw [hW1]
      show ((((w5.setCell ⟨P0, 0, none⟩ (.string (⟨k.toArray⟩ : ByteArray))).setCell ⟨P0, 1, none⟩ (.string ⟨#[]⟩)).setCell ⟨P0, 2, none⟩ (.bool true))).heap[P0]? = _
      rw [heap_setCell (heap_setCell (heap_setCell hP0 _) _) _]; rfl
    have p0 := cell_of (i := 0) hP0 rfl
    have p1 := cell_of (i := 1) hP0 rfl
    have p2 := cell_of (i := 2) hP0 rfl
    have f0 := frozen_of 0 hP0
    have f1 := frozen_of 1 hP0
    have f2 := frozen_of 2 hP0
    have HDN := Lib.hid (show doneI [] false = 0 from rfl)
    rw [HDN.out] at HD0
    have HD0 := Lib.hid HD0
    have HW1 := Lib.hid hW1
    have HRES := Lib.hid (And.intro h1P (hm5.then hm1 (fun i hi e => by have := HPP.out; omega) : Mod No w W1))
    clear hm1 h1P hW1 h55 hP0 hb5
    refine wp_region_T (fun w' => w'.cell? ⟨b5, 0, none⟩ = some (.string (⟨k.toArray⟩ : ByteArray)) ∧ w'.cell? ⟨b5, 1, none⟩ = some (.string ⟨#[]⟩) ∧ w'.cell? ⟨b5, 2, none⟩ = some (.bool true)) 99 (by kernel_rfl) ?_
    refine wpAnyT_takeV 0 (some 19) (.agg #[.string (⟨k.toArray⟩ : ByteArray), .string ⟨#[]⟩, .bool true]) rfl rfl (by kernel_rfl) (fun _ _ _ h => h) hS0 (Or.inl ⟨by rfl, ?_⟩) ?_
    · (intro w' hSw; (try dsimp only at hSw); obtain ⟨s0, s1, s2⟩ := hSw; go_simp)
    simp only [Act.put, List.setIfInBounds_toArray, List.set_cons_zero, List.set_cons_succ]
    refine wpAnyT_takeV 1 (some 20) ?_ rfl rfl (by kernel_rfl) (fun _ _ _ h => h) hS0 (Or.inl ⟨by rfl, ?_⟩) ?_
    rotate_left
    · (intro w' hSw; (try dsimp only at hSw); go_simp; try with_reducible rfl)
    simp only [Act.put, List.setIfInBounds_toArray, List.set_cons_zero, List.set_cons_succ]
    refine wpAnyT_one 2 rfl (by kernel_rfl) rfl ?_
    intro K hK
    go_simp
    (go_at_call 52; with_reducible refine HD0.out.mono ?_; rintro e w' ⟨rfl, h2⟩; subst h2)
    show K _ _
    refine hK.out _ _ (fun _ => hS0) ?_
    clear hK K
    refine wpAnyT_takeV 3 (some 22) ?_ rfl rfl (by kernel_rfl) (fun _ _ _ h => h) hS0 (Or.inl ⟨by rfl, ?_⟩) ?_
    rotate_left
    · (intro w' hSw; (try dsimp only at hSw); go_simp; try with_reducible rfl)
    simp only [Act.put, List.setIfInBounds_toArray, List.set_cons_zero, List.set_cons_succ]
    refine wpAnyT_one 4 rfl (by kernel_rfl) rfl ?_
    intro K hK
    go_simp
    rw [← HW1.out]
    show K _ _
    refine hK.out _ _ (fun _ => hS1) ?_
    clear hK K
    refine wpAnyT_takeV 5 (some 3) ?_ rfl rfl (by kernel_rfl) (fun _ _ _ h => h) hS1 (Or.inl ⟨by rfl, ?_⟩) ?_
    rotate_left
    · (intro w' hSw; (try dsimp only at hSw); go_simp; try with_reducible rfl)
    simp only [Act.put, List.setIfInBounds_toArray, List.set_cons_zero, List.set_cons_succ]
    refine wpAnyT_done (by kernel_rfl) ?_ _
    clear hS0 HD0
    have h1 := HRES.out.1
    have r0 := cell_of (i := 0) h1 rfl
    have r1 := cell_of (i := 1) h1 rfl
    have r2 := cell_of (i := 2) h1 rfl
    clear h1
    go_wp2_with fail
    exact bodyPost_ret (v := .tuple #[.agg #[.string (⟨k.toArray⟩ : ByteArray), .string ⟨#[]⟩, .bool true], .bool true]) (by simp [results, Tryz.results34, go_sem, r0, r1, r2]) rfl (fin hR ⟨rfl, HRES.out.2⟩)
  | false =>
    replace hrd : RdAt w4 q v4 (textB x) false := hrd
    obtain ⟨w5, hw5⟩ : ∃ w5, w5 = w4.alloc (.cells #[.string ⟨k.toArray⟩, .string ⟨#[]⟩, .bool false] 32) := ⟨_, rfl⟩
    have m5 : Mod No w4 w5 := by rw [hw5]; exact (Mod.refl No w4).alloc _
    have h55 : w5.heap[b5]? = some (.cells #[.string ⟨k.toArray⟩, .string ⟨#[]⟩, .bool false] 32 (0, 0)) := by rw [hw5, hb]; exact heap_alloc_new w4 _
    have hlx := HPL.out
    have HT := Lib.hid (rtext_ok (hrd.stay m5) (by have := textB_len x h2; dsimp only at h2; omega))
    have hP0 := m5.keep HP4.out (fun f => f)
    have hm5 := HM4.out.trans m5
    have hqb : ¬ b5 = q := by have := lt_of_heap hrd.obj; omega
    have HX5 := Lib.hid hw5
    have HBB := Lib.hid hb
    have H55 := Lib.hid h55
    have c52 := cell_of (i := 2) h55 rfl
    have HM5 := Lib.hid hm5
    have HP5 := Lib.hid hP0
    clear hw5 m5 hb hn hm4 hrd h55 hP0 hm5 hlx
    go_upto_region 3 with fail
    rw [← HX5.out, ← HBB.out]
    go_wp2_with fail
    with_reducible refine HT.out.mono ?_
    clear HT
    rintro e w6 ⟨hm6, ⟨s, L', v6, hn, rfl, hrd⟩ | ⟨hn, -⟩⟩
    case inr => rw [show textB x = textB x ++ [] by simp, rdText_text _ _ (by omega)] at hn; cases hn
    obtain ⟨rfl, rfl⟩ : s = x ∧ L' = [] := by
      rw [show textB x = textB x ++ [] by simp, rdText_text _ _ (by omega)] at hn; cases hn; exact ⟨rfl, rfl⟩
    have h56 := hm6.keep H55.out hqb
    have hP6 := hm6.keep HP5.out (fun e => hq0 e.symm)
    have cb1 := cell_of (i := 1) h56 rfl
    have fb1 := frozen_of 1 h56
    have hm6' := HM5.out.then hm6 (fun i hi e => by have := HQ.out; have := HZ1.out; omega)
    obtain ⟨w7, hw7⟩ : ∃ w7, w7 = w6.setCell ⟨b5, 1, none⟩ (.string ⟨s.toArray⟩) := ⟨_, rfl⟩
    have m7 : Mod (fun i => i = b5) w6 w7 := by rw [hw7]; exact (Mod.refl (fun i => i = b5) w6).setCell (fun _ => rfl) _
    have h55 : w7.heap[b5]? = some (.cells #[.string ⟨k.toArray⟩, .string ⟨s.toArray⟩, .bool false] 32 (0, 0)) := by rw [hw7, heap_setCell h56]; rfl
    have hrd := hrd.keep m7 (fun e => hqb e.symm) (fun i cur fz s e => by rw [s, h56] at e; cases e)
    have hP0 := m7.keep hP6 (fun e => hb5 e.symm)
    have hm5 : Mod No w w7 := hm6'.then m7 (fun i hi e => by have := HBB.out; have := HM4.out.size; omega)
    have HX7 := Lib.hid hw7
    clear hw7 m7 hn hm6 hP6 hm6' c52
    go_upto_region 5 with fail
    rw [← HX7.out]
    have HW5 := Lib.hid h55
    have hS0 : w7.drew.cell? ⟨b5, 0, none⟩ = some (.string (⟨k.toArray⟩ : ByteArray)) ∧ w7.drew.cell? ⟨b5, 1, none⟩ = some (.string ⟨s.toArray⟩) ∧ w7.drew.cell? ⟨b5, 2, none⟩ = some (.bool false) := ⟨cell_of (i := 0) h55 rfl, cell_of (i := 1) h55 rfl, cell_of (i := 2) h55 rfl⟩
    obtain ⟨W1, hW1⟩ : ∃ W1, W1 = (((w7.setCell ⟨P0, 0, none⟩ (.string (⟨k.toArray⟩ : ByteArray))).setCell ⟨P0, 1, none⟩ (.string ⟨s.toArray⟩)).setCell ⟨P0, 2, none⟩ (.bool false)).drew := ⟨_, rfl⟩
    have hm1 : Mod (fun i => i = P0) w7 W1 := by rw [hW1]; exact ((((Mod.refl (fun i => i = P0) w7).setCell (fun _ => rfl) _).setCell (fun _ => rfl) _).setCell (fun _ => rfl) _).drew
    have hS1 : W1.cell? ⟨b5, 0, none⟩ = some (.string (⟨k.toArray⟩ : ByteArray)) ∧ W1.cell? ⟨b5, 1, none⟩ = some (.string ⟨s.toArray⟩) ∧ W1.cell? ⟨b5, 2, none⟩ = some (.bool false) := ⟨hm1.cell (cell_of (i := 0) h55 rfl) hb5, hm1.cell (cell_of (i := 1) h55 rfl) hb5, hm1.cell (cell_of (i := 2) h55 rfl) hb5⟩
    have HD0 := rdone_any (hrd.stay (Mod.refl No w7).drew)
    have h1P : W1.heap[P0]? = some (.cells #[.string (⟨k.toArray⟩ : ByteArray), .string ⟨s.toArray⟩, .bool false] 32 (0, 0)) := by
      rw [hW1]
      show ((((w7.setCell ⟨P0, 0, none⟩ (.string (⟨k.toArray⟩ : ByteArray))).setCell ⟨P0, 1, none⟩ (.string ⟨s.toArray⟩)).setCell ⟨P0, 2, none⟩ (.bool false))).heap[P0]? = _
      rw [heap_setCell (heap_setCell (heap_setCell hP0 _) _) _]; rfl
    have p0 := cell_of (i := 0) hP0 rfl
    have p1 := cell_of (i := 1) hP0 rfl
    have p2 := cell_of (i := 2) hP0 rfl
    have f0 := frozen_of 0 hP0
    have f1 := frozen_of 1 hP0
    have f2 := frozen_of 2 hP0
    have HDN := Lib.hid (show doneI [] false = 0 from rfl)
    rw [HDN.out] at HD0
    have HD0 := Lib.hid HD0
    have HW1 := Lib.hid hW1
    have HRES := Lib.hid (And.intro h1P (hm5.then hm1 (fun i hi e => by have := HPP.out; omega) : Mod No w W1))
    clear hm1 h1P hW1 h55 hP0 hb5
    refine wp_region_T (fun w' => w'.cell? ⟨b5, 0, none⟩ = some (.string (⟨k.toArray⟩ : ByteArray)) ∧ w'.cell? ⟨b5, 1, none⟩ = some (.string ⟨s.toArray⟩) ∧ w'.cell? ⟨b5, 2, none⟩ = some (.bool false)) 99 (by kernel_rfl) ?_
    refine wpAnyT_takeV 0 (some 19) (.agg #[.string (⟨k.toArray⟩ : ByteArray), .string ⟨s.toArray⟩, .bool false]) rfl rfl (by kernel_rfl) (fun _ _ _ h => h) hS0 (Or.inl ⟨by rfl, ?_⟩) ?_
    · (intro w' hSw; (try dsimp only at hSw); obtain ⟨s0, s1, s2⟩ := hSw; go_simp)
    simp only [Act.put, List.setIfInBounds_toArray, List.set_cons_zero, List.set_cons_succ]
    refine wpAnyT_takeV 1 (some 20) ?_ rfl rfl (by kernel_rfl) (fun _ _ _ h => h) hS0 (Or.inl ⟨by rfl, ?_⟩) ?_
    rotate_left
    · (intro w' hSw; (try dsimp only at hSw); go_simp; try with_reducible rfl)
    simp only [Act.put, List.setIfInBounds_toArray, List.set_cons_zero, List.set_cons_succ]
    refine wpAnyT_one 2 rfl (by kernel_rfl) rfl ?_
    intro K hK
    go_simp
    (go_at_call 52; with_reducible refine HD0.out.mono ?_; rintro e w' ⟨rfl, h2⟩; subst h2)
    show K _ _
    refine hK.out _ _ (fun _ => hS0) ?_
    clear hK K
    refine wpAnyT_takeV 3 (some 22) ?_ rfl rfl (by kernel_rfl) (fun _ _ _ h => h) hS0 (Or.inl ⟨by rfl, ?_⟩) ?_
    rotate_left
    · (intro w' hSw; (try dsimp only at hSw); go_simp; try with_reducible rfl)
    simp only [Act.put, List.setIfInBounds_toArray, List.set_cons_zero, List.set_cons_succ]
    refine wpAnyT_one 4 rfl (by kernel_rfl) rfl ?_
    intro K hK
    go_simp
    rw [← HW1.out]
    show K _ _
    refine hK.out _ _ (fun _ => hS1) ?_
    clear hK K
    refine wpAnyT_takeV 5 (some 3) ?_ rfl rfl (by kernel_rfl) (fun _ _ _ h => h) hS1 (Or.inl ⟨by rfl, ?_⟩) ?_
    rotate_left
    · (intro w' hSw; (try dsimp only at hSw); go_simp; try with_reducible rfl)
    simp only [Act.put, List.setIfInBounds_toArray, List.set_cons_zero, List.set_cons_succ]
    refine wpAnyT_done (by kernel_rfl) ?_ _
    clear hS0 HD0
    have h1 := HRES.out.1
    have r0 := cell_of (i := 0) h1 rfl
    have r1 := cell_of (i := 1) h1 rfl
    have r2 := cell_of (i := 2) h1 rfl
    clear h1
    go_wp2_with fail
    exact bodyPost_ret (v := .tuple #[.agg #[.string (⟨k.toArray⟩ : ByteArray), .string ⟨s.toArray⟩, .bool false], .bool true]) (by simp [results, Tryz.results34, go_sem, r0, r1, r2]) rfl (fin hR ⟨rfl, HRES.out.2⟩)

end Go.Proofs.YtkeopmfmlciadaaGreat
namespace Go.Proofs.YtkeopmfmlciadaaGreat
open Go.RowKit Go.Maps

/-- What a map of texts has. -/
abbrev Mt := List UInt8 → Option (List UInt8)

def Mt.put (M : Mt) (k v : List UInt8) : Mt := fun x => if x = k then some v else M x
def Mt.del (M : Mt) (k : List UInt8) : Mt := fun x => if x = k then none else M x
def Mt.change (M : Mt) (p : Pr) : Mt := if p.gone then M.del p.key else M.put p.key p.value
def Mt.changes (M : Mt) (l : List Pr) : Mt := l.foldl Mt.change M

/-- A map of texts in memory, of no more than n keys. -/
structure SMp (w : World) (b n : Nat) (M : Mt) : Prop where
  row : ∃ D, Mp w 9 b D ∧ Maps.size D ≤ n ∧ ∀ k, (M k = none → Maps.has D (.string k) = false) ∧ ∀ v, M k = some v → Maps.has D (.string k) = true ∧ ∀ zd, D.atKey (.string k) zd = .held (.string ⟨v.toArray⟩)

theorem key_str : Keyed Tryz.prog 9 := string_keyed Tryz.underlying9
theorem keyOf_str (k : List UInt8) (h : k.length ≤ 1000000000) : keyOf Tryz.prog 9 (.string ⟨k.toArray⟩) = some (.string k) := by
  rw [Go.WideMaps.keyOf_string_mk Tryz.underlying9 (by rw [str_size_list]; unfold maxLen; omega)]
theorem isKey_str (k : List UInt8) : WideAt.IsKeyLit (.string k) := trivial
theorem lit_str_ne {i j : List UInt8} (h : j ≠ i) : Lit.string j ≠ .string i := fun e => h (by cases e; rfl)

theorem SMp.keep {S : Nat → Prop} {w w' : World} {b n : Nat} {M : Mt} (h : SMp w b n M) (hm : Mod S w w') (hs : ¬ S b) : SMp w' b n M := by
  obtain ⟨D, h1, h2, h3⟩ := h.row
  exact ⟨D, h1.keep hm hs, h2, h3⟩

theorem SMp.more {w : World} {b n m : Nat} {M : Mt} (h : SMp w b n M) (hn : n ≤ m) : SMp w b m M := by
  obtain ⟨D, h1, h2, h3⟩ := h.row
  exact ⟨D, h1, by omega, h3⟩

theorem SMp.lt {w : World} {b n : Nat} {M : Mt} (h : SMp w b n M) : b < w.heap.size := by
  obtain ⟨D, h1, -⟩ := h.row
  obtain ⟨es, c, hb⟩ := h1.heap
  exact lt_of_heap hb

theorem SMp.made (w : World) : SMp (w.alloc (.map #[] 0)) w.heap.size 0 (fun _ => none) :=
  ⟨.map [], Mp.made w _, Nat.le_refl _, fun k => ⟨fun _ => by simp [Maps.has_eq], fun v h => by cases h⟩⟩

theorem SMp.not_cells {w : World} {b n : Nat} {M : Mt} (h : SMp w b n M) (cur : Array Value) (t : TypeId) (fz : Nat × Nat) : w.heap[b]? ≠ some (.cells cur t fz) := by
  obtain ⟨D, h1, -⟩ := h.row
  exact fun e => by
    obtain ⟨es, c, hb⟩ := h1.heap
    rw [hb] at e; cases e

theorem SMp.putD {w' : World} {b n : Nat} {M : Mt} {k v : List UInt8} {D : DataW Value} (hT : Tidy D) (h2 : Maps.size D ≤ n) (h3 : ∀ k, (M k = none → Maps.has D (.string k) = false) ∧ ∀ v, M k = some v → Maps.has D (.string k) = true ∧ ∀ zd, D.atKey (.string k) zd = .held (.string ⟨v.toArray⟩))
    (hm : Mp w' 9 b (D.put (.string k) (.held (.string ⟨v.toArray⟩)))) : SMp w' b (n + 1) (M.put k v) := by
  have hD : IsMap D := hT.isMap
  refine ⟨_, hm, ?_, fun x => ⟨fun hx => ?_, fun u hx => ?_⟩⟩
  · rw [size_put hT]; split <;> omega
  · by_cases e : x = k
    · simp [Mt.put, e] at hx
    · simp only [Mt.put, if_neg e] at hx
      rw [has_put_other (lit_str_ne e)]
      exact (h3 x).1 hx
  · by_cases e : x = k
    · subst e
      simp only [Mt.put, if_true] at hx
      cases hx
      exact ⟨has_put_same hD (isKey_str _) _, fun zd => atKey_put_same hD (isKey_str _) _ zd⟩
    · simp only [Mt.put, if_neg e] at hx
      rw [has_put_other (lit_str_ne e)]
      refine ⟨((h3 x).2 u hx).1, fun zd => ?_⟩
      rw [atKey_put_other (lit_str_ne e)]
      exact ((h3 x).2 u hx).2 zd

theorem SMp.delD {w' : World} {b n : Nat} {M : Mt} {k : List UInt8} {D : DataW Value} (hT : Tidy D) (h2 : Maps.size D ≤ n) (h3 : ∀ k, (M k = none → Maps.has D (.string k) = false) ∧ ∀ v, M k = some v → Maps.has D (.string k) = true ∧ ∀ zd, D.atKey (.string k) zd = .held (.string ⟨v.toArray⟩))
    (hm : Mp w' 9 b (D.del (.string k))) : SMp w' b n (M.del k) := by
  refine ⟨_, hm, ?_, fun x => ⟨fun hx => ?_, fun u hx => ?_⟩⟩
  · have := size_del hT (k := .string k); omega
  · by_cases e : x = k
    · subst e; exact has_del_same
    · simp only [Mt.del, if_neg e] at hx
      rw [has_del_other (lit_str_ne e)]
      exact (h3 x).1 hx
  · by_cases e : x = k
    · simp [Mt.del, e] at hx
    · simp only [Mt.del, if_neg e] at hx
      rw [has_del_other (lit_str_ne e)]
      refine ⟨((h3 x).2 u hx).1, fun zd => ?_⟩
      rw [atKey_del_other (lit_str_ne e)]
      exact ((h3 x).2 u hx).2 zd

/-- A row of pairs. -/
def prCells (l : List Pr) : List Value := l.flatMap fun p => [.string ⟨p.key.toArray⟩, .string ⟨p.value.toArray⟩, .bool p.gone]

/-- Pairs that are read. -/
structure Prs (w : World) (X : Nat → Prop) (a : Option Addr) (l : List Pr) : Prop where
  at_ : ∀ i (hi : i < l.length), ∃ b o, a = some ⟨b, o, none⟩ ∧ ¬ X b ∧ w.cell? ⟨b, o + i * 3, none⟩ = some (.string ⟨l[i].key.toArray⟩) ∧ w.cell? ⟨b, o + i * 3 + 1, none⟩ = some (.string ⟨l[i].value.toArray⟩) ∧ w.cell? ⟨b, o + i * 3 + 2, none⟩ = some (.bool l[i].gone)

theorem Prs.keep {S X : Nat → Prop} {w w' : World} {a : Option Addr} {l : List Pr} (h : Prs w X a l) (hm : Mod S w w') (hs : ∀ k, S k → X k) : Prs w' X a l :=
  ⟨fun i hi => by
    obtain ⟨b, o, h1, hx, h2, h3, h4⟩ := h.at_ i hi
    have hn : ¬ S b := fun s => hx (hs b s)
    exact ⟨b, o, h1, hx, hm.cell h2 hn, hm.cell h3 hn, hm.cell h4 hn⟩⟩

/-- Short keys. -/
def ShortP (l : List Pr) : Prop := ∀ p ∈ l, p.key.length ≤ 10000000 ∧ p.value.length ≤ 10000000

set_option maxRecDepth 100000 in
set_option maxHeartbeats 4000000 in
theorem change_any {w : World} {b n : Nat} {M : Mt} {a : Option Addr} {c : Nat} {l : List Pr} (h : SMp w b n M) (hl : Prs w (fun k => k = b) a l) (hsh : ShortP l) (hn : n + l.length ≤ 1000000000) :
    Calls Tryz.prog 35 #[.map (some b), .slice a l.length c] w fun e w' => e = .returned (.tuple #[]) ∧ SMp w' b (n + l.length) (M.changes l) ∧ Mod (fun k => k = b) w w' := by
  refine calls_hide fun R hR => ?_
  have H := Lib.hid h
  have HL := Lib.hid hl
  have HS := Lib.hid hsh
  clear h hl hsh
  go_enter Tryz.func35, Tryz.ntmps35
  go_wp2_with fail
  go_loopw [8] (fun q wr => ∃ i : Nat, i ≤ l.length ∧ q = .int .i64 i ∧ SMp wr b (n + i) (M.changes (l.take i)) ∧ Mod (fun k => k = b) w wr) (fun q _ => l.length - (intOf q).toNat)
  case atStart => exact ⟨0, by omega, rfl, H.out, Mod.refl _ _⟩
  case round =>
    obtain ⟨i, hi, rfl, hs, hm⟩ := hrel
    have hi0 : (0 : Int) ≤ (i : Int) := Int.natCast_nonneg _
    by_cases hlt : i < l.length
    · have hi1 : (i : Int) < (l.length : Int) := by omega
      obtain ⟨g, o, rfl, hx, c0, c1, c2⟩ := (HL.out.keep hm (fun _ e => e)).at_ i hlt
      have hsp := HS.out l[i] (List.getElem_mem hlt)
      have HCH := Lib.hid (show M.changes (l.take (i + 1)) = (M.changes (l.take i)).change l[i] by
        rw [List.take_succ_eq_append_getElem hlt]; unfold Mt.changes; rw [List.foldl_append]; rfl)
      generalize l[i] = pr at *
      obtain ⟨k, v, gn⟩ := pr
      dsimp only at c0 c1 c2 hsp
      obtain ⟨w2, hw2⟩ : ∃ w2, w2 = wr.alloc (.cells #[.string ⟨k.toArray⟩, .string ⟨v.toArray⟩, .bool gn] 32) := ⟨_, rfl⟩
      have m2 : Mod No wr w2 := by rw [hw2]; exact (Mod.refl No wr).alloc _
      have hb2 : w2.heap[wr.heap.size]? = some (.cells #[.string ⟨k.toArray⟩, .string ⟨v.toArray⟩, .bool gn] 32 (0, 0)) := by rw [hw2]; exact heap_alloc_new wr _
      have p0 := cell_of (i := 0) hb2 rfl
      have p1 := cell_of (i := 1) hb2 rfl
      have p2 := cell_of (i := 2) hb2 rfl
      clear hb2
      obtain ⟨D, d1, d2, d3⟩ := (hs.keep m2 (fun f => f)).row
      have hkey := keyOf_str k (by omega)
      have hT := d1.tidy key_str
      have HD := Lib.hid (And.intro d1 (And.intro d2 (And.intro d3 hT)))
      have HM2 := Lib.hid (show Mod (fun k => k = b) w w2 from hm.trans (m2.weaken fun _ _ f => f.elim))
      have HW2 := Lib.hid hw2
      have HX := Lib.hid hx
      have hsz : Maps.size D < maxLen := by unfold maxLen; omega
      have hkl : k.length ≤ 10000000 := hsp.1
      clear d1 d2 d3 hT m2 hw2 hs hm hx hsp
      have HK := Lib.hid hkey
      clear hkey
      generalize hKK : (⟨k.toArray⟩ : ByteArray) = K at *
      generalize hVV : (⟨v.toArray⟩ : ByteArray) = V at *
      have HVV := Lib.hid hVV
      have HKK := Lib.hid hKK
      clear hKK hVV
      cases gn with
      | true =>
        go_upto_region 4 with fail
        rw [← HW2.out]
        obtain ⟨w3, hdr0, hmp, hm3, -⟩ := HD.out.1.drop key_str (t := 40) Tryz.underlying40 HK.out 0
        have hdr : ∀ ty, (Builtin.delete_ #[40, 9] ty #[.map (some b), .string K]).run Tryz.prog w2 = .ok (.tuple #[]) w3 := fun ty => hdr0
        clear hdr0
        have HE := Lib.hid (SMp.delD HD.out.2.2.2 HD.out.2.1 HD.out.2.2.1 hmp)
        have HM3 := Lib.hid (HM2.out.trans hm3)
        clear hmp hm3
        go_wp2_with fail
        exact ⟨⟨i + 1, by omega, by go_num, by rw [HCH.out]; exact HE.out.more (by omega), HM3.out⟩, by go_light; simp only [intOf]; omega⟩
      | false =>
        go_upto_region 5 with fail
        rw [← HW2.out]
        obtain ⟨w3, hst, hmp, hm3, -⟩ := HD.out.1.store key_str (t := 40) (val := .string V) Tryz.underlying40 hsz HK.out
        have HE := Lib.hid (SMp.putD (v := v) HD.out.2.2.2 HD.out.2.1 HD.out.2.2.1 (by rw [HVV.out]; exact hmp))
        have HM3 := Lib.hid (HM2.out.trans hm3)
        clear hmp hm3
        go_wp2_with fail
        exact ⟨⟨i + 1, by omega, by go_num, by rw [HCH.out]; exact HE.out, HM3.out⟩, by go_light; simp only [intOf]; omega⟩
    · have hil : i = l.length := by omega
      subst hil
      rw [List.take_length] at hs
      have HSS := Lib.hid hs
      have HM := Lib.hid hm
      clear hs hm
      go_wp2_with fail
      go_end0
      exact fin hR ⟨rfl, HSS.out, HM.out⟩

end Go.Proofs.YtkeopmfmlciadaaGreat
namespace Go.Proofs.YtkeopmfmlciadaaGreat
open Go.RowKit Go.Maps Go.Sort Go.Shelf

theorem clone_map {w : World} {b n : Nat} {M : Mt} (h : SMp w b n M) :
    Calls Tryz.prog 38 #[.map (some b)] w fun e w' => e = .returned (.map (some w.heap.size)) ∧ SMp w' w.heap.size n M ∧ Mod No w w' := by
  obtain ⟨D, h1, h2, h3⟩ := h.row
  have hc := AnyW.maps_Clone_owns Tryz.cloneM 9 heldR b (Maps.size D) D w h1
  change Calls Tryz.prog 38 _ _ _ at hc
  refine hc.mono ?_
  rintro e w' ⟨rfl, ho, -, hb⟩
  exact ⟨rfl, ⟨D, ho, h2, h3⟩, Mod.of_below hb⟩

theorem sortsS (m : Nat) : AnyZ.SortsIn Tryz.prog Tryz.sortedS_ren Fence.wide m :=
  ⟨fun blk off cap ss W hH hblk hsz => callsIn_wide.2 (AnyM.slices_Sort_string Tryz.sortS blk off cap ss W hH hblk hsz),
   fun p cap W => callsIn_wide.2 (AnyM.slices_Sort_string_none Tryz.sortS p cap W)⟩

theorem keysS_any (mb : Option Nat) (w : World) :
    Calls Tryz.prog 43 #[.map mb] w fun e w' => e = .returned (.func (.func 69) #[] #[.pointer (some ⟨w.heap.size, 0, none⟩)]) ∧ w' = w.alloc (.cells #[.map mb] 40) :=
  callsIn_wide.1 (AnyZ.keys_in Tryz.keysS Fence.wide 5 trivial rfl mb w)

set_option maxRecDepth 100000 in
set_option maxHeartbeats 1000000 in
theorem sortedS_any (b : Nat) (D : DataW Value) (w : World) (h : Mp w 9 b D) (hmax : Maps.size D ≤ 1000000) :
    Calls Tryz.prog 42 #[.func (.func 69) #[] #[.pointer (some ⟨w.heap.size, 0, none⟩)]] (w.alloc (.cells #[.map (some b)] 40)) fun e w' =>
      ∃ (v : Value) (ss : List (List UInt8)), e = .returned v ∧ ss.Perm (strKeys D) ∧ w'.ownsRow (w.heap.size + 1) 9 1 v ss.length ((ss.mergeSort (fun x y => decide (x ≤ y))).map encStr) ∧ Mod No (w.alloc (.cells #[.map (some b)] 40)) w' := by
  have hbl := World.ownsMap.lt h
  have hseq : SeqGives Fence.wide 2 Tryz.prog 69 #[.pointer (some ⟨w.heap.size, 0, none⟩)] encStr (fun ss => ss.Perm (strKeys D)) (Maps.size D) (w.alloc (.cells #[.map (some b)] 40)) :=
    AnyZ.keys_gives (ρ := Tryz.keysS_ren) { Tryz.keysS with } Fence.wide _ trivial rfl (by omega) w.heap.size b _ D _ (by simp) (by simp) (by
      obtain ⟨es, clock, hb, Ft, hs, hD⟩ := h
      exact ⟨es, clock, (Below.heap_alloc _ _ b hbl).trans hb, Ft, hs, hD⟩)
  have cS := AnyZ.sorted_in Tryz.sortedS Fence.wide 5 trivial trivial trivial trivial rfl (by omega) (sortsS _) (enters_of Tryz.func68 (by kernel_rfl) rfl) 69 #[.pointer (some ⟨w.heap.size, 0, none⟩)] trivial (enters_of Tryz.func69 (by kernel_rfl) rfl) _ _ (by unfold maxLen; omega) (by omega) _ hseq
  change CallsIn _ _ Tryz.prog 42 _ _ _ at cS
  refine (callsIn_wide.1 cS).mono ?_
  rintro e w' ⟨v, ss, rfl, hS, hrow, hnil, hb⟩
  refine ⟨v, ss, rfl, hS, ?_, Mod.of_below hb⟩
  have := hrow
  rw [World.size_alloc] at this
  exact this

end Go.Proofs.YtkeopmfmlciadaaGreat
namespace Go.Proofs.YtkeopmfmlciadaaGreat
open Go.RowKit Go.Maps Go.Sort Go.Shelf

/-- A map's keys, rising, each once. -/
structure KeysOfM (M : Mt) (ks : List (List UInt8)) : Prop where
  nodup : ks.Nodup
  mem : ∀ k, k ∈ ks ↔ (M k).isSome = true
  sorted : ks.Pairwise fun a b => leB a b = true

theorem KeysOfM.unique {M : Mt} {ks ls : List (List UInt8)} (h : KeysOfM M ks) (h' : KeysOfM M ls) : ks = ls := by
  have hp : ks.Perm ls := (List.perm_ext_iff_of_nodup h.nodup h'.nodup).2 fun x => by rw [h.mem, h'.mem]
  refine List.Perm.eq_of_pairwise (le := fun a b => leB a b = true) (fun a b _ _ h1 h2 => ?_) h.sorted h'.sorted hp
  simp only [leB, decide_eq_true_eq] at h1 h2
  exact List.le_antisymm h1 h2

/-- What the keys of a map in memory sort to. -/
theorem keys_sorted {w : World} {b n : Nat} {M : Mt} {D : DataW Value} (d1 : Mp w 9 b D) (d2 : Maps.size D ≤ n) (d3 : ∀ k, (M k = none → Maps.has D (.string k) = false) ∧ ∀ v, M k = some v → Maps.has D (.string k) = true ∧ ∀ zd, D.atKey (.string k) zd = .held (.string ⟨v.toArray⟩))
    {ss : List (List UInt8)} (hs : ss.Perm (strKeys D)) : KeysOfM M (ss.mergeSort leB) ∧ (ss.mergeSort leB).length ≤ n ∧ ss.length = (ss.mergeSort leB).length := by
  obtain ⟨es, hD, hp⟩ := d1.tidy key_str
  obtain ⟨es', hD', hk⟩ := World.ownsMap.keysOf d1
  rw [hD] at hD'
  cases hD'
  have hkey : ∀ p ∈ es, ∃ x, p.1 = .string x := fun p hpm => by
    obtain ⟨v, hv⟩ := hk p hpm
    obtain ⟨x, _, hx, _⟩ := Maps.keyOf_str Tryz.underlying9 hv
    exact ⟨x, hx⟩
  have hmem : ∀ x, x ∈ strKeys D ↔ (M x).isSome = true := fun x => by
    have hh : Maps.has D (.string x) = true ↔ (M x).isSome = true := by
      cases hM : M x with
      | none => rw [(d3 x).1 hM]; simp
      | some v => rw [((d3 x).2 v hM).1]; simp
    rw [← hh, hD, has_iff]
    simp only [strKeys, List.mem_map]
    constructor
    · rintro ⟨p, hpm, rfl⟩
      obtain ⟨y, hy⟩ := hkey p hpm
      exact ⟨p, hpm, by rw [hy]; exact WideAt.sameKey_self (isKey_str _)⟩
    · rintro ⟨p, hpm, hsame⟩
      obtain ⟨y, hy⟩ := hkey p hpm
      refine ⟨p, hpm, ?_⟩
      have := WideAt.sameKey_eq hsame
      rw [this]; rfl
  have hnd : (strKeys D).Nodup := by
    rw [hD]
    show (es.map fun p => strOf p.1).Nodup
    refine List.pairwise_map.2 (hp.imp_of_mem fun {p q} hp' hq' hne e => hne ?_)
    obtain ⟨x, hx⟩ := hkey p hp'
    obtain ⟨y, hy⟩ := hkey q hq'
    rw [hx, hy] at e ⊢
    exact congrArg _ e
  have hperm : (ss.mergeSort leB).Perm (strKeys D) := (List.mergeSort_perm ss leB).trans hs
  have tr : ∀ a b c : List UInt8, leB a b = true → leB b c = true → leB a c = true := fun a b c h1 h2 => by simp only [leB, decide_eq_true_eq] at *; exact List.le_trans h1 h2
  have hto : ∀ a b : List UInt8, (leB a b || leB b a) = true := fun a b => by simp only [leB, Bool.or_eq_true, decide_eq_true_eq]; exact List.le_total a b
  refine ⟨⟨hperm.nodup_iff.2 hnd, fun k => by rw [hperm.mem_iff, hmem], List.pairwise_mergeSort tr hto ss⟩, ?_, by simp⟩
  rw [hperm.length_eq, hD]
  have : (strKeys (.map es : DataW Value)).length = Maps.size (.map es : DataW Value) := by simp [strKeys, Maps.size_eq]
  rw [this, ← hD]; exact d2

/-- slices.Sorted(maps.Keys(m)), at its second call. -/
theorem sorted_keys {w : World} {b n : Nat} {M : Mt} (h : SMp w b n M) (hn : n ≤ 1000000) :
    Calls Tryz.prog 42 #[.func (.func 69) #[] #[.pointer (some ⟨w.heap.size, 0, none⟩)]] (w.alloc (.cells #[.map (some b)] 40)) fun e w' =>
      ∃ (v : Value) (ks : List (List UInt8)), e = .returned v ∧ KeysOfM M ks ∧ ks.length ≤ n ∧ w'.ownsRow (w.heap.size + 1) 9 1 v ks.length (ks.map encStr) ∧ Mod No w w' := by
  obtain ⟨D, d1, d2, d3⟩ := h.row
  refine (sortedS_any b D w d1 (by omega)).mono ?_
  rintro e w' ⟨v, ss, rfl, hp, ho, hm⟩
  obtain ⟨k1, k2, k3⟩ := keys_sorted d1 d2 d3 hp
  exact ⟨v, _, rfl, k1, k2, by rw [← k3]; exact ho, ((Mod.refl No w).alloc _).trans hm⟩

/-- The records of a map, by its keys. -/
def recsOf (M : Mt) (ks : List (List UInt8)) : List Pr := ks.map fun k => ⟨k, (M k).getD [], false⟩

theorem changes_recs {M : Mt} : ∀ (ks : List (List UInt8)) (A : Mt), ks.Nodup → (∀ k ∈ ks, (M k).isSome = true) → A.changes (recsOf M ks) = fun k => if k ∈ ks then M k else A k
  | [], A, _, _ => by funext k; simp [Mt.changes, recsOf]
  | x :: ks, A, hn, hs => by
    have hn' := List.nodup_cons.1 hn
    have ih := changes_recs ks (A.put x ((M x).getD [])) hn'.2 fun k hk => hs k (by simp [hk])
    have e : A.changes (recsOf M (x :: ks)) = (A.put x ((M x).getD [])).changes (recsOf M ks) := rfl
    rw [e, ih]
    funext k
    obtain ⟨v, hv⟩ := Option.isSome_iff_exists.1 (hs x (by simp))
    by_cases hk : k = x
    · subst hk
      simp [hn'.1, Mt.put, hv]
    · simp [Mt.put, hk]

theorem recsOf_replay {M : Mt} {ks : List (List UInt8)} (h : KeysOfM M ks) : Mt.changes (fun _ => none) (recsOf M ks) = M := by
  rw [changes_recs ks _ h.nodup fun k hk => (h.mem k).1 hk]
  funext k
  by_cases hk : k ∈ ks
  · simp [hk]
  · have : (M k).isSome = false := by
      cases hM : (M k).isSome with
      | true => exact absurd ((h.mem k).2 hM) hk
      | false => rfl
    simp [hk]
    cases hM : M k with
    | none => rfl
    | some v => rw [hM] at this; cases this

theorem changes_append (M : Mt) (a b : List Pr) : M.changes (a ++ b) = (M.changes a).changes b := by unfold Mt.changes; rw [List.foldl_append]

end Go.Proofs.YtkeopmfmlciadaaGreat
namespace Go.Proofs.YtkeopmfmlciadaaGreat
open Go.RowKit Go.Maps Go.Shelf

/-- A store's struct and its map. -/
structure StoAt (w : World) (s p m n : Nat) (M : Mt) (down : Bool) : Prop where
  obj : w.heap[s]? = some (.cells #[.pointer (some ⟨p, 0, none⟩), .map (some m), .bool down] 76 (0, 0))
  map : SMp w m n M

theorem StoAt.keep {S : Nat → Prop} {w w' : World} {s p m n : Nat} {M : Mt} {down : Bool} (h : StoAt w s p m n M down) (hm : Mod S w w') (h1 : ¬ S s) (h2 : ¬ S m) : StoAt w' s p m n M down :=
  ⟨hm.keep h.obj h1, h.map.keep hm h2⟩

theorem StoAt.stay {w w' : World} {s p m n : Nat} {M : Mt} {down : Bool} (h : StoAt w s p m n M down) (hm : Mod No w w') : StoAt w' s p m n M down := h.keep hm (fun f => f) (fun f => f)

theorem zero_str (w : World) : (zeroValue 9).run Tryz.prog w = .ok (.string ⟨#[]⟩) w := zero_of (by kernel_rfl)

/-- What Get tells. -/
def getV (M : Mt) (k : List UInt8) : Value := .tuple #[.string ⟨((M k).getD []).toArray⟩, .bool (M k).isSome]

theorem SMp.look {w : World} {m n : Nat} {M : Mt} (h : SMp w m n M) (k : List UInt8) (hk : k.length ≤ 1000000000) : (Instr.lookup 40 (.map (some m)) (.string ⟨k.toArray⟩) true).run Tryz.prog w = .ok (getV M k) w := by
  obtain ⟨D, d1, d2, d3⟩ := h.row
  cases hM : M k with
  | none =>
    have := d1.look_miss key_str (t := 40) Tryz.underlying40 (zero_str w) (keyOf_str k hk) ((d3 k).1 hM)
    rw [this]; unfold getV; rw [hM]; rfl
  | some v =>
    have := d1.look_hit key_str (t := 40) Tryz.underlying40 (zero_str w) (keyOf_str k hk) ((d3 k).2 v hM).1 ((d3 k).2 v hM).2
    rw [this]; unfold getV; rw [hM]; rfl

theorem SMp.get {w : World} {m n : Nat} {M : Mt} (h : SMp w m n M) (k : List UInt8) (hk : k.length ≤ 1000000000) : (Instr.lookup 40 (.map (some m)) (.string ⟨k.toArray⟩) false).run Tryz.prog w = .ok (.string ⟨((M k).getD []).toArray⟩) w := by
  obtain ⟨D, d1, d2, d3⟩ := h.row
  cases hM : M k with
  | none => exact d1.get_miss key_str (t := 40) Tryz.underlying40 (zero_str w) (keyOf_str k hk) ((d3 k).1 hM)
  | some v => exact d1.get_hit key_str (t := 40) Tryz.underlying40 (zero_str w) (keyOf_str k hk) ((d3 k).2 v hM).2

theorem sget_any {w : World} {s p m n : Nat} {M : Mt} {down : Bool} (h : StoAt w s p m n M down) (k : List UInt8) (hk : k.length ≤ 1000000000) :
    Calls Tryz.prog 17 #[.pointer (some ⟨s, 0, none⟩), .string ⟨k.toArray⟩] w fun e w' => e = .returned (getV M k) ∧ w' = w := by
  refine calls_hide fun R hR => ?_
  have c1 := cell_of (i := 1) h.obj rfl
  have hl := h.map.look k hk
  clear h
  unfold getV at hl hR
  go_enter Tryz.func17, Tryz.ntmps17
  go_wp2_with fail
  exact fin hR ⟨rfl, rfl⟩

theorem noted_any {s : Nat} {e : Int} {w : World} (he : e ≠ 32) :
    Calls Tryz.prog 39 #[.pointer (some ⟨s, 0, none⟩), .int .i64 e] w fun x w' => x = .returned (.int .i64 e) ∧ w' = w := by
  refine calls_hide fun R hR => ?_
  have hb : (e == 32) = false := by simpa using he
  go_enter Tryz.func39, Tryz.ntmps39
  go_wp2_with fail
  exact fin hR ⟨rfl, rfl⟩

/-- The records of pairs. -/
def prB (l : List Pr) : List (List UInt8) := l.map pairB

/-- Short entries. -/
def ShortM (M : Mt) : Prop := ∀ k v, M k = some v → k.length ≤ 10000000 ∧ v.length ≤ 10000000

theorem prB_len (l : List Pr) : (prB l).length = l.length := by simp [prB]

set_option maxRecDepth 100000 in
set_option maxHeartbeats 4000000 in
theorem sreset_part {w : World} {s p m n n' : Nat} {M M' : Mt} {down : Bool} {E : Int} {Post : World → Prop} (h : StoAt w s p m n M down) (m' : Nat) (hm' : SMp w m' n' M') (hn : n' ≤ 100000) (hsh : ShortM M') (hE : E ≠ 32)
    (hlog : ∀ ks v W, KeysOfM M' ks → ks.length ≤ 100000 → Mod No w W → OwnRecs W w.heap.size v (prB (recsOf M' ks)) → Calls Tryz.prog 66 #[.pointer (some ⟨p, 0, none⟩), v] W fun e w' => e = .returned (.int .i64 E) ∧ Post w') :
    Calls Tryz.prog 41 #[.pointer (some ⟨s, 0, none⟩), .map (some m')] w fun e w' => e = .returned (.int .i64 E) ∧ Post w' := by
  obtain ⟨i0, hi0, hz0, hz1, hz2⟩ := info_parts info_bs
  refine calls_hide fun R hR => ?_
  have H := Lib.hid h
  have HM' := Lib.hid hm'
  have HSH := Lib.hid hsh
  have HLOG := Lib.hid hlog
  clear h hm' hsh hlog
  go_enter Tryz.func41, Tryz.ntmps41
  go_wp2_with fail
  with_reducible refine (keysS_any (some m') w).mono ?_
  rintro e w' ⟨rfl, h2⟩
  subst h2
  have HSK := Lib.hid (sorted_keys HM'.out (by omega))
  go_wp2_with fail
  with_reducible refine HSK.out.mono ?_
  clear HSK
  rintro e w2 ⟨v2, ks, rfl, hks, hkl, ho, hm2⟩
  obtain ⟨va, vc, rfl⟩ := own_len ho
  have HKS := Lib.hid hks
  have HO := Lib.hid ho
  have HM2 := Lib.hid hm2
  have hkb : ks.length ≤ 100000 := by omega
  obtain ⟨base, hbase⟩ : ∃ base, base = w2.heap.size := ⟨_, rfl⟩
  have HBASE := Lib.hid hbase
  clear hks hkl ho hm2 hbase
  go_wp2_with fail
  go_loopw [5, 12] (fun u q wr => ∃ i : Nat, i ≤ ks.length ∧ q = .int .i64 i ∧ OwnRecs wr base u ((prB (recsOf M' ks)).take i) ∧ Mod No w2 wr) (fun _ q _ => ks.length - (intOf q).toNat)
  case atStart => exact ⟨0, by omega, rfl, OwnRecs.nil _ _, Mod.refl _ _⟩
  case round =>
    obtain ⟨i, hi, rfl, hown, hmod⟩ := hrel
    have hi0' : (0 : Int) ≤ (i : Int) := Int.natCast_nonneg _
    by_cases hlt : i < ks.length
    · have hi1 : (i : Int) < (ks.length : Int) := by omega
      obtain ⟨g, gc, hv, hgb⟩ := own_shape HO.out (by omega)
      cases hv
      have hc := (HO.out.cells (g := g) rfl i (.string ⟨ks[i].toArray⟩) (by rw [List.getElem?_map, List.getElem?_eq_getElem hlt]; rfl))
      have hc : w2.cell? ⟨g, i, none⟩ = some (.string ⟨ks[i].toArray⟩) := by simpa [Addr.add_lit] using hc
      have hc := hmod.cell hc (fun f => f)
      have hks := (HKS.out.mem ks[i]).1 (List.getElem_mem hlt)
      obtain ⟨val, hval⟩ := Option.isSome_iff_exists.1 hks
      have hlen := HSH.out _ _ hval
      have hgt := (HM'.out.keep (HM2.out.trans hmod) (fun f => f)).get ks[i] (by omega)
      rw [hval] at hgt
      have HSUC := Lib.hid (show (prB (recsOf M' ks)).take (i + 1) = (prB (recsOf M' ks)).take i ++ [pairB ⟨ks[i], val, false⟩] by
        rw [List.take_succ_eq_append_getElem (by rw [prB_len]; unfold recsOf; rw [List.length_map]; exact hlt)]
        congr 2
        simp [prB, recsOf, hval])
      have HDL := Lib.hid (show ((prB (recsOf M' ks)).take i).length ≤ 1000000 by rw [List.length_take]; omega)
      have HB := Lib.hid (show Calls Tryz.prog 37 #[.agg #[.string ⟨ks[i].toArray⟩, .string ⟨val.toArray⟩, .bool false]] wr fun e w' => ∃ v, e = .returned v ∧ w'.ownsRow wr.heap.size 5 1 v (pairB ⟨ks[i], val, false⟩).length (bv (pairB ⟨ks[i], val, false⟩)) ∧ Mod No wr w' from pbytes_any ⟨ks[i], val, false⟩ wr hlen.1 hlen.2)
      generalize (prB (recsOf M' ks)).take i = done at *
      generalize pairB ⟨ks[i], val, false⟩ = rec_ at *
      generalize hK : (⟨ks[i].toArray⟩ : ByteArray) = K at *
      clear hK
      dsimp only [Option.getD_some] at hgt
      generalize hV : (⟨val.toArray⟩ : ByteArray) = V at *
      clear hV
      have HOWN := Lib.hid hown
      have HMOD := Lib.hid hmod
      clear hown hmod hval hlen hks
      go_wp2_with fail
      with_reducible refine HB.out.mono ?_
      clear HB
      rintro e w5 ⟨v5, rfl, ho5, hm5⟩
      obtain ⟨ua, uc, rfl⟩ := own_len ho5
      have HREC := Lib.hid (HOWN.out.stay hm5)
      have HU0 := Lib.hid (Sl.of_own (X := fun q => q < base) ho5 (fun q h1 h2 => by have := HMOD.out.size; have := HBASE.out; omega))
      have HMW := Lib.hid (HMOD.out.trans hm5)
      generalize hul : rec_.length = ul at *
      have HUL := Lib.hid hul
      clear ho5 hm5
      have hm5 : Mod No w5 (w5.alloc (.cells #[.slice ua ul uc] 45)) := (Mod.refl No w5).alloc _
      obtain ⟨vs, e1, e2, e3⟩ := HREC.out.row
      have HU := Lib.hid (HU0.out.keep hm5 (fun q _ _ (f : No q) => f.elim))
      have HO5 := Lib.hid (own_keepM e2 hm5 (fun _ _ f => f))
      have HE1 := Lib.hid e1
      have HE3 := Lib.hid (show ∀ (y : Nat) (u' : Value) (r : List UInt8), vs[y]? = some u' → (done)[y]? = some r → Sl (w5.alloc (.cells #[.slice ua ul uc] 45)) (fun q => q < base) 5 u' r.length (bv r) from fun y u' r h1 h2 => (e3 y u' r h1 h2).keep hm5 (fun q _ _ (f : No q) => f.elim))
      have HBX := Lib.hid (show Sl (w5.alloc (.cells #[.slice ua ul uc] 45)) No 45 (.slice (some ⟨w5.heap.size, 0, none⟩) 1 1) 1 [.slice ua ul uc] from
        .inr ⟨w5.heap.size, 0, 1, #[.slice ua ul uc], (0, 0), rfl, Nat.le_refl _, by unfold maxLen; omega, fun f => f, heap_alloc_new w5 _, Nat.le_refl _, fun i hi => by simp⟩)
      have HM5 := Lib.hid (HMW.out.trans hm5)
      have hb5 : base ≤ (w5.alloc (.cells #[.slice ua ul uc] 45)).heap.size := by have := HM5.out.size; have := HBASE.out; omega
      have h1c : ∀ y ∈ [Value.slice ua ul uc], y.oneCell' = true := by
        intro y hy
        simp at hy
        subst hy
        rfl
      have H1C := Lib.hid h1c
      have hdl := HDL.out
      clear e1 e2 e3 h1c hm5
      go_wp2_with (at_builtin; refine app_sl _ rfl _ _ 72 rfl base 45 i0 (.slice none 0 0) 1 24 Tryz.underlying72 hi0 hz0 hz1 hz2 rfl (by decide) _ _ _ rfl HO5.out No 45 _ _ _ rfl HBX.out rfl H1C.out ?_ ?_ hb5 ?_)
      · unfold maxLen; omega
      · omega
      intro v' w6 hown6 hg6 _
      have HR6 := Lib.hid (OwnRecs.push (r := rec_) HE1.out HO5.out HE3.out (by rw [HUL.out]; exact HU.out) hg6 hown6)
      have HM6 := Lib.hid (HM5.out.then (Mod.of_grown (S := fun q => base ≤ q) hg6 (fun q e _ => (HO5.out.lt _ e).1)) (fun q hq e => by have := HBASE.out; omega))
      clear hown6 hg6 HO5 HE1 HE3 HU HBX HM5 H1C hdl
      go_wp2_with fail
      exact ⟨⟨i + 1, by omega, by go_num, by rw [HSUC.out]; exact HR6.out, HM6.out⟩, by go_light; simp only [intOf]; omega⟩
    · have hil : i = ks.length := by omega
      subst hil
      rw [List.take_of_length_le (by rw [prB_len]; unfold recsOf; rw [List.length_map]; exact Nat.le_refl _)] at hown
      have hmw := HM2.out.trans hmod
      have c0 := cell_of (i := 0) (H.out.stay hmw).obj rfl
      have HR := Lib.hid (HLOG.out ks _ wr HKS.out hkb hmw (hown.lower (by rw [HBASE.out]; exact HM2.out.size)))
      clear hown hmod hmw
      go_wp2_with fail
      with_reducible refine HR.out.mono ?_
      clear HR
      rintro e w3 ⟨rfl, hp⟩
      have HP := Lib.hid hp
      clear hp
      go_wp2_with fail
      with_reducible refine (noted_any hE).mono ?_
      rintro e w4 ⟨rfl, h2⟩
      subst h2
      go_wp2_with fail
      exact fin hR ⟨rfl, HP.out⟩

end Go.Proofs.YtkeopmfmlciadaaGreat
namespace Go.Proofs.YtkeopmfmlciadaaGreat
open Go.RowKit Go.Maps Go.Shelf

/-- A store at s over a disk at b of N sectors of sz bytes, all of it new since w0 and within O: M is what its records come to. -/
structure Sto (w0 w : World) (N sz b s : Nat) (O : Nat → Prop) (n : Nat) (M : Mt) (cnt : Nat) : Prop where
  has : ∃ p m sb mb ub d L rs, LogHas w p b sb mb ub d L ∧ d.n = N ∧ d.sz = sz ∧ StoAt w s p m n M false ∧ L.all = prB rs ∧ Mt.changes (fun _ => none) rs = M ∧ ShortP rs ∧ L.turn ≤ cnt ∧
    (∀ q, LOwn p b sb mb ub q ∨ q = s ∨ q = m → O q) ∧ ¬ LOwn p b sb mb ub s ∧ ¬ LOwn p b sb mb ub m
  low : ∀ q, O q → w0.heap.size ≤ q
  high : ∀ q, O q → q < w.heap.size
  mod : Mod No w0 w

theorem Sto.stay {w0 w w' : World} {N sz b s n cnt : Nat} {O : Nat → Prop} {M : Mt} (h : Sto w0 w N sz b s O n M cnt) (hm : Mod No w w') : Sto w0 w' N sz b s O n M cnt := by
  obtain ⟨p, m, sb, mb, ub, d, L, rs, h1, h2, h3, h4, h5⟩ := h.has
  exact ⟨⟨p, m, sb, mb, ub, d, L, rs, h1.stay hm, h2, h3, h4.stay hm, h5⟩, h.low, fun q hq => Nat.lt_of_lt_of_le (h.high q hq) hm.size, h.mod.trans hm⟩

/-- Pairs whose records are short. -/
def MidP (l : List Pr) : Prop := ∀ p ∈ l, p.key.length ≤ 500000 ∧ p.value.length ≤ 500000

theorem MidP.short {l : List Pr} (h : MidP l) : ShortP l := fun p hp => by have := h p hp; omega

theorem pairB_mid {p : Pr} (h : p.key.length ≤ 500000 ∧ p.value.length ≤ 500000) : (pairB p).length ≤ 1000021 := by
  have := pairB_len p (by omega) (by omega); omega

theorem prB_short {l : List Pr} (h : MidP l) : (prB l).any isLong = false := by
  rw [List.any_eq_false]
  intro r hr
  obtain ⟨p, hp, rfl⟩ := List.mem_map.1 hr
  have := pairB_mid (h p hp)
  unfold isLong
  simp; omega

theorem Prs.avoid {w : World} {X : Nat → Prop} {a : Option Addr} {l : List Pr} (h : Prs w X a l) : Prs w (fun q => X q ∨ w.heap.size ≤ q) a l :=
  ⟨fun i hi => by
    obtain ⟨b, o, h1, hx, h2, h3, h4⟩ := h.at_ i hi
    have := lt_of_cell h2
    dsimp only at this
    exact ⟨b, o, h1, fun e => e.elim hx (fun e => by omega), h2, h3, h4⟩⟩

theorem Prs.weak {w : World} {X Y : Nat → Prop} {a : Option Addr} {l : List Pr} (h : Prs w X a l) (hy : ∀ q, Y q → X q) : Prs w Y a l :=
  ⟨fun i hi => by
    obtain ⟨b, o, h1, hx, h⟩ := h.at_ i hi
    exact ⟨b, o, h1, fun e => hx (hy _ e), h⟩⟩

set_option maxRecDepth 100000 in
set_option maxHeartbeats 4000000 in
/-- Apply's loop: the records, behind which the rest goes on as it is told. -/
theorem sapply_part {w : World} {s p m n : Nat} {M : Mt} {a : Option Addr} {c : Nat} {l : List Pr} {Post : Ending → World → Prop} (h : StoAt w s p m n M false) (hp : Prs w No a l) (hl : MidP l) (hn : l.length ≤ 100000) (hnn : n ≤ 100000)
    (hlog : ∀ v W m', Mod No w W → OwnRecs W w.heap.size v (prB l) → SMp W m' (n + l.length) (M.changes l) → w.heap.size ≤ m' → Calls Tryz.prog 40 #[.pointer (some ⟨p, 0, none⟩), v] W fun e w' =>
      (e = .returned (.int .i64 0) ∧ StoAt w' s p m n M false ∧ (∀ w'', w'' = w'.setCell ⟨s, 1, none⟩ (.map (some m')) → Post (.returned (.int .i64 0)) w'')) ∨
      (e = .returned (.int .i64 40) ∧ StoAt w' s p m n M false ∧ SMp w' m' (n + l.length) (M.changes l) ∧ Calls Tryz.prog 41 #[.pointer (some ⟨s, 0, none⟩), .map (some m')] w' fun e w'' =>
        e = .returned (.int .i64 0) ∧ StoAt w'' s p m n M false ∧ (∀ w3, w3 = w''.setCell ⟨s, 1, none⟩ (.map (some m')) → Post (.returned (.int .i64 0)) w3))) :
    Calls Tryz.prog 14 #[.pointer (some ⟨s, 0, none⟩), .slice a l.length c] w Post := by
  obtain ⟨i0, hi0, hz0, hz1, hz2⟩ := info_parts info_bs
  refine calls_hide fun R hR => ?_
  have H := Lib.hid h
  have HP := Lib.hid hp
  have HL := Lib.hid hl
  have HLOG := Lib.hid hlog
  have c2 := cell_of (i := 2) h.obj rfl
  obtain ⟨base, hbase⟩ : ∃ base, base = w.heap.size := ⟨_, rfl⟩
  have HBASE := Lib.hid hbase
  clear h hp hl hlog hbase
  go_enter Tryz.func14, Tryz.ntmps14
  go_wp2_with fail
  go_loopw [5, 16] (fun u q wr => ∃ i : Nat, i ≤ l.length ∧ q = .int .i64 i ∧ OwnRecs wr base u ((prB l).take i) ∧ Mod No w wr) (fun _ q _ => l.length - (intOf q).toNat)
  case atStart => exact ⟨0, by omega, rfl, OwnRecs.nil _ _, Mod.refl _ _⟩
  case round =>
    obtain ⟨i, hi, rfl, hown, hmod⟩ := hrel
    have hi0' : (0 : Int) ≤ (i : Int) := Int.natCast_nonneg _
    by_cases hlt : i < l.length
    · have hi1 : (i : Int) < (l.length : Int) := by omega
      obtain ⟨g, o, rfl, -, c0, c1, c2⟩ := HP.out.at_ i hlt
      have c0 := hmod.cell c0 (fun f => f)
      have c1 := hmod.cell c1 (fun f => f)
      have c2 := hmod.cell c2 (fun f => f)
      have hmid := HL.out l[i] (List.getElem_mem hlt)
      have HSUC := Lib.hid (show (prB l).take (i + 1) = (prB l).take i ++ [pairB l[i]] by
        rw [List.take_succ_eq_append_getElem (by rw [prB_len]; exact hlt)]
        congr 2
        simp [prB])
      have HDL := Lib.hid (show ((prB l).take i).length ≤ 1000000 by rw [List.length_take]; omega)
      generalize l[i] = pr at *
      generalize (prB l).take i = done at *
      obtain ⟨k, x, gn⟩ := pr
      dsimp only at c0 c1 c2 hmid
      have hksz := str_size_list k
      have hxsz := str_size_list x
      have hk5 : (k.length : Int) ≤ 500000 := by omega
      have hx5 : (x.length : Int) ≤ 500000 := by omega
      obtain ⟨w4, hw4⟩ : ∃ w4, w4 = wr.alloc (.cells #[.string ⟨k.toArray⟩, .string ⟨x.toArray⟩, .bool gn] 32) := ⟨_, rfl⟩
      have m4 : Mod No wr w4 := by rw [hw4]; exact (Mod.refl No wr).alloc _
      have h4 : w4.heap[wr.heap.size]? = some (.cells #[.string ⟨k.toArray⟩, .string ⟨x.toArray⟩, .bool gn] 32 (0, 0)) := by rw [hw4]; exact heap_alloc_new wr _
      have p0 := cell_of (i := 0) h4 rfl
      have p1 := cell_of (i := 1) h4 rfl
      have p2 := cell_of (i := 2) h4 rfl
      have HB := Lib.hid (show Calls Tryz.prog 37 #[.agg #[.string ⟨k.toArray⟩, .string ⟨x.toArray⟩, .bool gn]] w4 fun e w' => ∃ v, e = .returned v ∧ w'.ownsRow w4.heap.size 5 1 v (pairB ⟨k, x, gn⟩).length (bv (pairB ⟨k, x, gn⟩)) ∧ Mod No w4 w' from pbytes_any ⟨k, x, gn⟩ w4 (by show k.length ≤ _; omega) (by show x.length ≤ _; omega))
      have HW4 := Lib.hid hw4
      have HOWN := Lib.hid (hown.stay m4)
      have HMOD := Lib.hid (hmod.trans m4)
      clear hown hmod m4 h4 hw4 hmid
      generalize pairB ⟨k, x, gn⟩ = rec_ at *
      generalize hK : (⟨k.toArray⟩ : ByteArray) = K at *
      generalize hV : (⟨x.toArray⟩ : ByteArray) = V at *
      have hKI : (K.size : Int) ≤ 500000 := by omega
      have hVI : (V.size : Int) ≤ 500000 := by omega
      clear hK hV hksz hxsz hk5 hx5
      cases gn with
      | true =>
        go_upto_region 7 with fail
        rw [← HW4.out]
        go_wp2_with fail
        with_reducible refine HB.out.mono ?_
        clear HB
        rintro e w5 ⟨v5, rfl, ho5, hm5⟩
        obtain ⟨ua, uc, rfl⟩ := own_len ho5
        have HREC := Lib.hid (HOWN.out.stay hm5)
        have HU0 := Lib.hid (Sl.of_own (X := fun q => q < base) ho5 (fun q h1 h2 => by have := HMOD.out.size; have := HBASE.out; omega))
        have HMW := Lib.hid (HMOD.out.trans hm5)
        generalize hul : rec_.length = ul at *
        have HUL := Lib.hid hul
        clear ho5 hm5
        have hm5 : Mod No w5 (w5.alloc (.cells #[.slice ua ul uc] 45)) := (Mod.refl No w5).alloc _
        obtain ⟨vs, e1, e2, e3⟩ := HREC.out.row
        have HU := Lib.hid (HU0.out.keep hm5 (fun q _ _ (f : No q) => f.elim))
        have HO5 := Lib.hid (own_keepM e2 hm5 (fun _ _ f => f))
        have HE1 := Lib.hid e1
        have HE3 := Lib.hid (show ∀ (y : Nat) (u' : Value) (r : List UInt8), vs[y]? = some u' → (done)[y]? = some r → Sl (w5.alloc (.cells #[.slice ua ul uc] 45)) (fun q => q < base) 5 u' r.length (bv r) from fun y u' r h1 h2 => (e3 y u' r h1 h2).keep hm5 (fun q _ _ (f : No q) => f.elim))
        have HBX := Lib.hid (show Sl (w5.alloc (.cells #[.slice ua ul uc] 45)) No 45 (.slice (some ⟨w5.heap.size, 0, none⟩) 1 1) 1 [.slice ua ul uc] from
          .inr ⟨w5.heap.size, 0, 1, #[.slice ua ul uc], (0, 0), rfl, Nat.le_refl _, by unfold maxLen; omega, fun f => f, heap_alloc_new w5 _, Nat.le_refl _, fun i hi => by simp⟩)
        have HM5 := Lib.hid (HMW.out.trans hm5)
        have hb5 : base ≤ (w5.alloc (.cells #[.slice ua ul uc] 45)).heap.size := by have := HM5.out.size; have := HBASE.out; omega
        have h1c : ∀ y ∈ [Value.slice ua ul uc], y.oneCell' = true := by
          intro y hy
          simp at hy
          subst hy
          rfl
        have H1C := Lib.hid h1c
        have hdl := HDL.out
        clear e1 e2 e3 h1c hm5
        go_wp2_with (at_builtin; refine app_sl _ rfl _ _ 72 rfl base 45 i0 (.slice none 0 0) 1 24 Tryz.underlying72 hi0 hz0 hz1 hz2 rfl (by decide) _ _ _ rfl HO5.out No 45 _ _ _ rfl HBX.out rfl H1C.out ?_ ?_ hb5 ?_)
        · unfold maxLen; omega
        · omega
        intro v' w6 hown6 hg6 _
        have HR6 := Lib.hid (OwnRecs.push (r := rec_) HE1.out HO5.out HE3.out (by rw [HUL.out]; exact HU.out) hg6 hown6)
        have HM6 := Lib.hid (HM5.out.then (Mod.of_grown (S := fun q => base ≤ q) hg6 (fun q e _ => (HO5.out.lt _ e).1)) (fun q hq e => by have := HBASE.out; omega))
        clear hown6 hg6 HO5 HE1 HE3 HU HBX HM5 H1C hdl
        go_wp2_with fail
        exact ⟨⟨i + 1, by omega, by go_num, by rw [HSUC.out]; exact HR6.out, HM6.out⟩, by go_light; simp only [intOf]; omega⟩
      | false =>
        go_upto_region 7 with fail
        rw [← HW4.out]
        go_wp2_with fail
        with_reducible refine HB.out.mono ?_
        clear HB
        rintro e w5 ⟨v5, rfl, ho5, hm5⟩
        obtain ⟨ua, uc, rfl⟩ := own_len ho5
        have HREC := Lib.hid (HOWN.out.stay hm5)
        have HU0 := Lib.hid (Sl.of_own (X := fun q => q < base) ho5 (fun q h1 h2 => by have := HMOD.out.size; have := HBASE.out; omega))
        have HMW := Lib.hid (HMOD.out.trans hm5)
        generalize hul : rec_.length = ul at *
        have HUL := Lib.hid hul
        clear ho5 hm5
        have hm5 : Mod No w5 (w5.alloc (.cells #[.slice ua ul uc] 45)) := (Mod.refl No w5).alloc _
        obtain ⟨vs, e1, e2, e3⟩ := HREC.out.row
        have HU := Lib.hid (HU0.out.keep hm5 (fun q _ _ (f : No q) => f.elim))
        have HO5 := Lib.hid (own_keepM e2 hm5 (fun _ _ f => f))
        have HE1 := Lib.hid e1
        have HE3 := Lib.hid (show ∀ (y : Nat) (u' : Value) (r : List UInt8), vs[y]? = some u' → (done)[y]? = some r → Sl (w5.alloc (.cells #[.slice ua ul uc] 45)) (fun q => q < base) 5 u' r.length (bv r) from fun y u' r h1 h2 => (e3 y u' r h1 h2).keep hm5 (fun q _ _ (f : No q) => f.elim))
        have HBX := Lib.hid (show Sl (w5.alloc (.cells #[.slice ua ul uc] 45)) No 45 (.slice (some ⟨w5.heap.size, 0, none⟩) 1 1) 1 [.slice ua ul uc] from
          .inr ⟨w5.heap.size, 0, 1, #[.slice ua ul uc], (0, 0), rfl, Nat.le_refl _, by unfold maxLen; omega, fun f => f, heap_alloc_new w5 _, Nat.le_refl _, fun i hi => by simp⟩)
        have HM5 := Lib.hid (HMW.out.trans hm5)
        have hb5 : base ≤ (w5.alloc (.cells #[.slice ua ul uc] 45)).heap.size := by have := HM5.out.size; have := HBASE.out; omega
        have h1c : ∀ y ∈ [Value.slice ua ul uc], y.oneCell' = true := by
          intro y hy
          simp at hy
          subst hy
          rfl
        have H1C := Lib.hid h1c
        have hdl := HDL.out
        clear e1 e2 e3 h1c hm5
        go_wp2_with (at_builtin; refine app_sl _ rfl _ _ 72 rfl base 45 i0 (.slice none 0 0) 1 24 Tryz.underlying72 hi0 hz0 hz1 hz2 rfl (by decide) _ _ _ rfl HO5.out No 45 _ _ _ rfl HBX.out rfl H1C.out ?_ ?_ hb5 ?_)
        · unfold maxLen; omega
        · omega
        intro v' w6 hown6 hg6 _
        have HR6 := Lib.hid (OwnRecs.push (r := rec_) HE1.out HO5.out HE3.out (by rw [HUL.out]; exact HU.out) hg6 hown6)
        have HM6 := Lib.hid (HM5.out.then (Mod.of_grown (S := fun q => base ≤ q) hg6 (fun q e _ => (HO5.out.lt _ e).1)) (fun q hq e => by have := HBASE.out; omega))
        clear hown6 hg6 HO5 HE1 HE3 HU HBX HM5 H1C hdl
        go_wp2_with fail
        exact ⟨⟨i + 1, by omega, by go_num, by rw [HSUC.out]; exact HR6.out, HM6.out⟩, by go_light; simp only [intOf]; omega⟩
    · have hil : i = l.length := by omega
      subst hil
      rw [List.take_of_length_le (by rw [prB_len]; exact Nat.le_refl _)] at hown
      have hst := H.out.stay hmod
      have c1 := cell_of (i := 1) hst.obj rfl
      have HC := Lib.hid (clone_map hst.map)
      have HOWN := Lib.hid hown
      have HMOD := Lib.hid hmod
      have HST := Lib.hid hst
      clear hown hmod hst
      go_wp2_with fail
      with_reducible refine HC.out.mono ?_
      clear HC
      rintro e w3 ⟨rfl, hmp, hm3⟩
      have hp3 := ((HP.out.avoid.keep (HMOD.out.trans hm3) (fun _ f => f.elim)).weak (Y := fun k => k = wr.heap.size) (fun q e => .inr (by subst e; exact HMOD.out.size)))
      have HCH := Lib.hid (change_any (c := c) hmp hp3 HL.out.short (by omega))
      have HM3 := Lib.hid hm3
      clear hmp hm3 hp3
      go_wp2_with fail
      with_reducible refine HCH.out.mono ?_
      clear HCH
      rintro e w4 ⟨rfl, hmp, hm4⟩
      have hm34 := HM3.out.then hm4 (fun q hq e => by omega)
      have hst4 := HST.out.stay hm34
      have c0 := cell_of (i := 0) hst4.obj rfl
      have HREC := Lib.hid (HOWN.out.stay hm34)
      have HLG := Lib.hid (HLOG.out _ w4 wr.heap.size (HMOD.out.trans hm34) (by rw [← HBASE.out]; exact HREC.out) hmp HMOD.out.size)
      obtain ⟨ua, uc, hu⟩ := (HREC.out.recs (X := No) (fun _ _ f => f)).len
      subst hu
      clear hmp hm4 hm34 hst4 HST
      generalize (prB l).length = rl at *
      go_wp2_with fail
      with_reducible refine HLG.out.mono ?_
      clear HLG
      rintro e w5 (⟨rfl, hst5, hpost⟩ | ⟨rfl, hst5, hmp5, hreset⟩)
      · have cs1 := cell_of (i := 1) hst5.obj rfl
        have fs1 := frozen_of 1 hst5.obj
        have HPO := Lib.hid hpost
        clear hst5 hpost
        go_wp2_with fail
        with_reducible refine (noted_any (by decide)).mono ?_
        rintro e w6 ⟨rfl, h2⟩
        subst h2
        go_wp2_with fail
        exact fin hR (HPO.out _ rfl)
      · have HRS := Lib.hid hreset
        clear hst5 hmp5 hreset
        go_wp2_with fail
        with_reducible refine (noted_any (by decide)).mono ?_
        rintro e w6 ⟨rfl, h2⟩
        subst h2
        go_wp2_with fail
        with_reducible refine HRS.out.mono ?_
        clear HRS
        rintro e w7 ⟨rfl, hst7, hpost⟩
        have cs1 := cell_of (i := 1) hst7.obj rfl
        have fs1 := frozen_of 1 hst7.obj
        have HPO := Lib.hid hpost
        clear hst7 hpost
        go_wp2_with fail
        exact fin hR (HPO.out _ rfl)

end Go.Proofs.YtkeopmfmlciadaaGreat
namespace Go.Proofs.YtkeopmfmlciadaaGreat
open Go.RowKit Go.Maps Go.Shelf

theorem SMp.stay {w w' : World} {b n : Nat} {M : Mt} (h : SMp w b n M) (hm : Mod No w w') : SMp w' b n M := h.keep hm (fun f => f)

theorem LogHas.keepS {S : Nat → Prop} {w w' : World} {p b sb mb ub : Nat} {d : Dk} {L : Lg} (h : LogHas w p b sb mb ub d L) (hm : Mod S w w') (hn : ∀ q, LOwn p b sb mb ub q → ¬ S q) (hs : ∀ q cur fz, S q → w.heap[q]? ≠ some (.cells cur 5 fz)) : LogHas w' p b sb mb ub d L :=
  ⟨h.disk.keep hm (hn _ (.inl (.inl rfl))) (hn _ (.inl (.inr (.inl rfl)))) (hn _ (.inl (.inr (.inr rfl)))) (fun q e => .inr fun cur fz => hs q cur fz e),
    ⟨hm.keep h.at_.obj (hn _ (.inr (.inr rfl))), h.at_.undone.keep hm (hn _ (.inr (.inl rfl)))⟩, h.ne, h.well, h.n, h.sz, h.ok⟩

/-- Entries whose records are short. -/
def MidM (M : Mt) : Prop := ∀ k v, M k = some v → k.length ≤ 500000 ∧ v.length ≤ 500000

theorem MidM.short {M : Mt} (h : MidM M) : ShortM M := fun k v e => by have := h k v e; omega

theorem MidM.recs {M : Mt} (h : MidM M) {ks : List (List UInt8)} (hk : KeysOfM M ks) : MidP (recsOf M ks) := fun p hp => by
  obtain ⟨k, hkm, rfl⟩ := List.mem_map.1 hp
  obtain ⟨v, hv⟩ := Option.isSome_iff_exists.1 ((hk.mem k).1 hkm)
  have := h k v hv
  dsimp only
  rw [hv]
  exact this

/-- A side has room for a map's records. -/
def Fits (N sz : Nat) (M : Mt) : Prop := ∀ ks, KeysOfM M ks → 32 + (bodyB (prB (recsOf M ks))).length ≤ (N / 2) * (sz - 16)

theorem wrE_mid {H m at_ : Nat} {l : List Pr} (h : MidP l) : (wrE H m at_ (prB l) = 0 ∧ 32 + (bodyB (prB l)).length ≤ (H - at_) * m) ∨ (wrE H m at_ (prB l) = 40 ∧ (H - at_) * m < 32 + (bodyB (prB l)).length) := by
  unfold wrE
  rw [if_neg (by rw [prB_short h]; decide)]
  by_cases h : (H - at_) * m < 32 + (bodyB (prB l)).length
  · rw [if_pos h]; exact .inr ⟨rfl, h⟩
  · rw [if_neg h]; exact .inl ⟨rfl, by omega⟩

/-- The store's map is set to another one. -/
theorem Sto.turned {w0 w w' w'' : World} {N sz b s n n' cnt m' : Nat} {O : Nat → Prop} {M M' : Mt} {p m sb mb ub : Nat} {d : Dk} {L : Lg} {rs : List Pr} (h1 : LogHas w' p b sb mb ub d L) (h2 : d.n = N) (h3 : d.sz = sz) (h4 : StoAt w' s p m n M false) (h5 : L.all = prB rs)
    (h6 : Mt.changes (fun _ => none) rs = M') (hsh : ShortP rs) (h7 : L.turn ≤ cnt) (h8 : ∀ q, LOwn p b sb mb ub q ∨ q = s ∨ q = m → O q) (h9 : ¬ LOwn p b sb mb ub s) (hm' : SMp w' m' n' M') (hlow : ∀ q, O q → w0.heap.size ≤ q) (hhigh : ∀ q, O q → q < w.heap.size) (hmod : Mod No w0 w') (hsz : w.heap.size ≤ m')
    (_ : w.heap.size ≤ w'.heap.size) (h0 : w0.heap.size ≤ w.heap.size) (hw : w'' = w'.setCell ⟨s, 1, none⟩ (.map (some m'))) : Sto w0 w'' N sz b s (fun q => O q ∨ q = m') n' M' cnt ∧ Mod (fun q => q = s) w' w'' := by
  have hms : Mod (fun q => q = s) w' w'' := by rw [hw]; exact (Mod.refl (fun q => q = s) w').setCell (fun _ => rfl) _
  have hsm : m' ≠ s := fun e => hm'.not_cells _ _ _ (by rw [e]; exact h4.obj)
  have hsO : O s := h8 s (.inr (.inl rfl))
  have hLm : ¬ LOwn p b sb mb ub m' := fun e => by have := hhigh m' (h8 m' (.inl e)); omega
  refine ⟨⟨⟨p, m', sb, mb, ub, d, L, rs, h1.keepS hms (fun q e f => by subst f; exact h9 e) (fun q cur fz e hh => by subst e; rw [h4.obj] at hh; cases hh), h2, h3, ⟨by rw [hw, heap_setCell h4.obj]; rfl, hm'.keep hms hsm⟩, h5, h6, hsh, h7, fun q e => ?_, h9, hLm⟩, fun q e => ?_, fun q e => ?_, ?_⟩, hms⟩
  · rcases e with e | e | e
    · exact .inl (h8 q (.inl e))
    · exact .inl (h8 q (.inr (.inl e)))
    · exact .inr e
  · rcases e with e | e
    · exact hlow q e
    · omega
  · have hz := hms.size
    rcases e with e | e
    · have := hhigh q e; omega
    · have := hm'.lt; omega
  · exact hmod.then hms fun i hi e => by have := hlow i (by rw [e]; exact hsO); omega

theorem Sto.apply {w0 w : World} {N sz b s n cnt : Nat} {O : Nat → Prop} {M : Mt} {a : Option Addr} {c : Nat} {l : List Pr} (h : Sto w0 w N sz b s O n M cnt) (hp : Prs w No a l) (hl : MidP l) (hM : MidM (M.changes l)) (hfit : Fits N sz (M.changes l)) (hln : l.length ≤ 10000) (hnn : n + l.length ≤ 100000) (hcnt : cnt ≤ 1000000000) :
    Calls Tryz.prog 14 #[.pointer (some ⟨s, 0, none⟩), .slice a l.length c] w fun e w' => e = .returned (.int .i64 0) ∧ ∃ O', Sto w0 w' N sz b s O' (n + l.length) (M.changes l) (cnt + 1) ∧ (∀ q, q < w.heap.size → O' q → O q) ∧ Mod O w w' := by
  obtain ⟨p, m, sb, mb, ub, d, L, rs, h1, h2, h3, h4, h5, h6, hsh, h7, h8, h9, h10⟩ := h.has
  have h0 := h.mod.size
  have hLs : ∀ q, LOwn p b sb mb ub q → q ≠ s := fun q e f => by subst f; exact h9 e
  have hLm : ∀ q, LOwn p b sb mb ub q → q ≠ m := fun q e f => by subst f; exact h10 e
  refine sapply_part h4 hp hl (by omega) (by omega) fun v W m' hmW hrec hmp hm' => ?_
  have hrl : (prB l).length ≤ 1000000000 := by rw [prB_len]; omega
  refine (commit_any (h1.stay hmW) (hrec.recs (X := No) (fun _ _ f => f)) hrl).mono ?_
  rw [h2, h3]
  have hmO : ∀ {w'}, Mod (fun q => Own3 b sb mb q ∨ q = ub ∨ q = p) W w' → Mod (LOwn p b sb mb ub) W w' := fun h => h
  have hm'O : ∀ q, LOwn p b sb mb ub q → q ≠ m' := fun q e f => by have := h.high q (h8 q (.inl e)); omega
  rintro e w' ⟨rfl, ⟨he, hm⟩ | ⟨he, hm, d', e1, e2, hL⟩⟩
  · right
    have he40 : wrE (N / 2) (sz - 16) L.at_ (prB l) = 40 := by
      rcases wrE_mid (H := N / 2) (m := sz - 16) (at_ := L.at_) hl with ⟨q, _⟩ | ⟨q, _⟩
      · exact absurd q he
      · exact q
    have hmw' := hmW.trans hm
    have hst' := h4.stay hmw'
    refine ⟨by rw [he40], hst', hmp.stay hm, ?_⟩
    refine sreset_part (Post := fun w'' => StoAt w'' s p m n M false ∧ ∀ w3, w3 = w''.setCell ⟨s, 1, none⟩ (.map (some m')) → (Ending.returned (.int .i64 0) = .returned (.int .i64 0) ∧ ∃ O', Sto w0 w3 N sz b s O' (n + l.length) (M.changes l) (cnt + 1) ∧ (∀ q, q < w.heap.size → O' q → O q) ∧ Mod O w w3)) hst' m' (hmp.stay hm) (by omega) hM.short (by decide) fun ks v2 W2 hks hkl hmW2 hrec2 => ?_
    have hmid2 := hM.recs hks
    have hE2 : wrE (N / 2) (sz - 16) 0 (prB (recsOf (M.changes l) ks)) = 0 := by
      rcases wrE_mid (H := N / 2) (m := sz - 16) (at_ := 0) hmid2 with ⟨q, _⟩ | ⟨_, q⟩
      · exact q
      · have := hfit ks hks
        rw [Nat.sub_zero] at q; omega
    have hkl : (prB (recsOf (M.changes l) ks)).length ≤ 1000000000 := by rw [prB_len]; unfold recsOf; rw [List.length_map]; omega
    refine (reset_any ((h1.stay hmw').stay hmW2) (hrec2.recs (X := No) (fun _ _ f => f)) hkl (by omega)).mono ?_
    rw [h2, h3, hE2]
    rintro e w'' ⟨rfl, ⟨he, _⟩ | ⟨_, hm2, d', e1, e2, hL⟩⟩
    · exact absurd rfl he
    · have hmL : Mod (LOwn p b sb mb ub) W2 w'' := hm2
      have hmW2' := hmw'.trans hmW2
      have hst2 : StoAt w'' s p m n M false := (hst'.stay hmW2).keep hmL (fun e => hLs _ e rfl) (fun e => hLm _ e rfl)
      have hmw : Mod O w w'' := (hmW2'.weaken fun _ _ f => f.elim).trans (hmL.weaken fun q _ e => h8 q (.inl e))
      have hsz2 := hmw.size
      refine ⟨rfl, hst2, fun w3 hw3 => ⟨rfl, ?_⟩⟩
      obtain ⟨hsto, hms⟩ := Sto.turned (w0 := w0) (w := w) (cnt := cnt + 1) hL e1 e2 hst2 rfl (recsOf_replay hks) hmid2.short (by show L.turn + 1 ≤ cnt + 1; omega) h8 h9 (((hmp.stay hm).stay hmW2).keep hmL (fun e => hm'O _ e rfl)) h.low h.high (h.mod.then hmw (fun i hi e => by have := h.low i e; omega)) hm' hsz2 h0 hw3
      exact ⟨_, hsto, fun q hq e => e.elim id fun e => by omega, hmw.trans (hms.weaken fun q _ e => by rw [e]; exact h8 s (.inr (.inl rfl)))⟩
  · left
    have hmL : Mod (LOwn p b sb mb ub) W w' := hm
    have hst' : StoAt w' s p m n M false := (h4.stay hmW).keep hmL (fun e => hLs _ e rfl) (fun e => hLm _ e rfl)
    have hmw : Mod O w w' := (hmW.weaken fun _ _ f => f.elim).trans (hmL.weaken fun q _ e => h8 q (.inl e))
    have hsz2 := hmw.size
    refine ⟨by rw [he], hst', fun w3 hw3 => ⟨rfl, ?_⟩⟩
    obtain ⟨hsto, hms⟩ := Sto.turned (w0 := w0) (w := w) (cnt := cnt + 1) (rs := rs ++ l) (M' := M.changes l) hL e1 e2 hst' (by show L.all ++ prB l = _; rw [h5]; simp [prB]) (by rw [changes_append, h6]) (fun p hp => (List.mem_append.1 hp).elim (hsh p) (hl.short p)) (by show L.turn ≤ cnt + 1; omega) h8 h9 (hmp.keep hmL (fun e => hm'O _ e rfl)) h.low h.high (h.mod.then hmw (fun i hi e => by have := h.low i e; omega)) hm' hsz2 h0 hw3
    exact ⟨_, hsto, fun q hq e => e.elim id fun e => by omega, hmw.trans (hms.weaken fun q _ e => by rw [e]; exact h8 s (.inr (.inl rfl)))⟩

set_option maxRecDepth 100000 in
theorem Sto.compact {w0 w : World} {N sz b s n cnt : Nat} {O : Nat → Prop} {M : Mt} (h : Sto w0 w N sz b s O n M cnt) (hM : MidM M) (hfit : Fits N sz M) (hnn : n ≤ 100000) (hcnt : cnt ≤ 1000000000) :
    Calls Tryz.prog 23 #[.pointer (some ⟨s, 0, none⟩)] w fun e w' => e = .returned (.int .i64 0) ∧ Sto w0 w' N sz b s O n M (cnt + 1) ∧ Mod O w w' := by
  refine calls_hide fun R hR => ?_
  obtain ⟨p, m, sb, mb, ub, d, L, rs, h1, h2, h3, h4, h5, h6, hsh, h7, h8, h9, h10⟩ := h.has
  have hLs : ∀ q, LOwn p b sb mb ub q → q ≠ s := fun q e f => by subst f; exact h9 e
  have hLm : ∀ q, LOwn p b sb mb ub q → q ≠ m := fun q e f => by subst f; exact h10 e
  have HRS := Lib.hid (sreset_part (E := 0) (Post := fun w'' => Sto w0 w'' N sz b s O n M (cnt + 1) ∧ Mod O w w'') h4 m h4.map hnn hM.short (by decide) fun ks v2 W2 hks hkl hmW2 hrec2 => by
    have hmid2 := hM.recs hks
    have hE2 : wrE (N / 2) (sz - 16) 0 (prB (recsOf M ks)) = 0 := by
      rcases wrE_mid (H := N / 2) (m := sz - 16) (at_ := 0) hmid2 with ⟨q, _⟩ | ⟨_, q⟩
      · exact q
      · have := hfit ks hks
        rw [Nat.sub_zero] at q; omega
    have hkl : (prB (recsOf M ks)).length ≤ 1000000000 := by rw [prB_len]; unfold recsOf; rw [List.length_map]; omega
    refine (reset_any (h1.stay hmW2) (hrec2.recs (X := No) (fun _ _ f => f)) hkl (by omega)).mono ?_
    rw [h2, h3, hE2]
    rintro e w'' ⟨rfl, ⟨he, _⟩ | ⟨_, hm2, d', e1, e2, hL⟩⟩
    · exact absurd rfl he
    · have hmL : Mod (LOwn p b sb mb ub) W2 w'' := hm2
      have hst2 : StoAt w'' s p m n M false := (h4.stay hmW2).keep hmL (fun e => hLs _ e rfl) (fun e => hLm _ e rfl)
      have hmw : Mod O w w'' := (hmW2.weaken fun _ _ f => f.elim).trans (hmL.weaken fun q _ e => h8 q (.inl e))
      exact ⟨rfl, ⟨⟨p, m, sb, mb, ub, d', _, recsOf M ks, hL, e1, e2, hst2, rfl, recsOf_replay hks, hmid2.short, by show L.turn + 1 ≤ cnt + 1; omega, h8, h9, h10⟩, h.low, fun q hq => Nat.lt_of_lt_of_le (h.high q hq) hmw.size, h.mod.then hmw fun i hi e => by have := h.low i e; omega⟩, hmw⟩)
  have c1 := cell_of (i := 1) h4.obj rfl
  have c2 := cell_of (i := 2) h4.obj rfl
  clear h h1 h2 h3 h4 h5 h6 hsh h7 h8 h9 h10 hLs hLm hM hfit
  go_enter Tryz.func23, Tryz.ntmps23
  go_wp2_with fail
  with_reducible refine HRS.out.mono ?_
  rintro e w2 ⟨rfl, h2⟩
  have H2 := Lib.hid h2
  clear h2 HRS c1 c2
  go_wp2_with fail
  exact fin hR ⟨rfl, H2.out.1, H2.out.2⟩

theorem Sto.get {w0 w : World} {N sz b s n cnt : Nat} {O : Nat → Prop} {M : Mt} (h : Sto w0 w N sz b s O n M cnt) (k : List UInt8) (hk : k.length ≤ 1000000000) :
    Calls Tryz.prog 17 #[.pointer (some ⟨s, 0, none⟩), .string ⟨k.toArray⟩] w fun e w' => e = .returned (getV M k) ∧ w' = w := by
  obtain ⟨p, m, sb, mb, ub, d, L, rs, h1, h2, h3, h4, h5⟩ := h.has
  exact sget_any h4 k hk

theorem Sto.down {w0 w : World} {N sz b s n cnt : Nat} {O : Nat → Prop} {M : Mt} (h : Sto w0 w N sz b s O n M cnt) :
    Calls Tryz.prog 24 #[.pointer (some ⟨s, 0, none⟩)] w fun e w' => e = .returned (.bool false) ∧ w' = w := by
  refine calls_hide fun R hR => ?_
  obtain ⟨p, m, sb, mb, ub, d, L, rs, h1, h2, h3, h4, -⟩ := h.has
  have c2 := cell_of (i := 2) h4.obj rfl
  clear h1 h2 h3 h4 h
  go_enter Tryz.func24, Tryz.ntmps24
  go_wp2_with fail
  exact fin hR ⟨rfl, rfl⟩

end Go.Proofs.YtkeopmfmlciadaaGreat
namespace Go.Proofs.YtkeopmfmlciadaaGreat
open Go.RowKit Go.Maps Go.Shelf

theorem change_norm (M : Mt) (p : Pr) : M.change p.norm = M.change p := by
  unfold Mt.change Pr.norm
  cases hg : p.gone <;> simp

/-- One pair, as a row of one. -/
theorem prs_one {w : World} {X : Nat → Prop} {g : Nat} {p : Pr} (hg : w.heap[g]? = some (.cells #[.string ⟨p.key.toArray⟩, .string ⟨p.value.toArray⟩, .bool p.gone] 32 (0, 0))) (hX : ¬ X g) : Prs w X (some ⟨g, 0, none⟩) [p] :=
  ⟨fun i hi => by
    obtain rfl : i = 0 := by simpa using hi
    exact ⟨g, 0, rfl, hX, cell_of (i := 0) hg rfl, cell_of (i := 1) hg rfl, cell_of (i := 2) hg rfl⟩⟩

/-- Open's loop. -/
structure SoInv (w wr : World) (s p m i : Nat) (rs : List Pr) : Prop where
  sto : StoAt wr s p m i (Mt.changes (fun _ => none) (rs.take i)) false
  mod : Mod (fun q => q = m) w wr

set_option maxRecDepth 100000 in
set_option maxHeartbeats 4000000 in
theorem sopen_any {w : World} {b sb mb : Nat} {d : Dk} {L : Lg} {rs : List Pr} (hn : 16 ≤ d.n) (hz : 128 ≤ d.sz) (hw : Well d) (h : DkAt w No b sb mb d) (ok : LogOK d.last (d.n / 2) (d.sz - 16) L) (hrs : L.all = prB rs) (hsh : ShortP rs) (hl : rs.length ≤ 100000000) :
    Calls Tryz.prog 12 #[.pointer (some ⟨b, 0, none⟩)] w fun e w' => ∃ s p m ub, e = .returned (.tuple #[.pointer (some ⟨s, 0, none⟩), .int .i64 0]) ∧ LogHas w' p b sb mb ub d L ∧ StoAt w' s p m rs.length (Mt.changes (fun _ => none) rs) false ∧ Mod No w w' ∧ w.heap.size ≤ s ∧ w.heap.size ≤ p ∧ w.heap.size ≤ ub ∧ w.heap.size ≤ m ∧ p < m ∧ ub < m ∧ p < s ∧ ub < s := by
  have hmm := @run_makeMap Tryz.prog
  refine calls_hide fun R hR => ?_
  have HOP := Lib.hid (open_has hn hz hw h ok)
  have HRS := Lib.hid hrs
  have HSH := Lib.hid hsh
  clear h hw ok hrs hsh
  go_enter Tryz.func12, Tryz.ntmps12
  go_wp2_with fail
  with_reducible refine HOP.out.mono ?_
  clear HOP
  rintro e w1 ⟨p, ub, v, rfl, hL1, hr1, hm1, hp1, hu1⟩
  rw [HRS.out] at hr1
  have hr1 := hr1.recs (X := No) (fun _ _ f => f)
  obtain ⟨va, vc, rfl⟩ := hr1.len
  have hpl := hL1.lt (.inr (.inr rfl))
  have hul := hL1.lt (.inr (.inl rfl))
  have HX1 := Lib.hid (And.intro hL1 (And.intro hm1 (And.intro hp1 (And.intro hu1 (And.intro hpl hul)))))
  have HR1 := Lib.hid hr1
  clear hL1 hr1 hm1 hp1 hu1 hpl hul
  obtain ⟨m, hm⟩ : ∃ m, m = w1.heap.size := ⟨_, rfl⟩
  obtain ⟨w2, hw2⟩ : ∃ w2, w2 = (w1.alloc (.map #[] 0)).alloc (.cells #[.pointer (some ⟨p, 0, none⟩), .map (some m), .bool false] 76) := ⟨_, rfl⟩
  have hmp : SMp (w1.alloc (.map #[] 0)) m 0 (fun _ => none) := by rw [hm]; exact SMp.made w1
  have hm12 : Mod No w1 w2 := by rw [hw2]; exact ((Mod.refl No w1).alloc _).alloc _
  have hsto : StoAt w2 (m + 1) p m 0 (fun _ => none) false := ⟨by rw [hw2]; exact heap_at_new _ _ (by rw [hm]; simp), by rw [hw2]; exact hmp.stay ((Mod.refl No _).alloc _)⟩
  have HS2 := Lib.hid hsto
  have HM12 := Lib.hid hm12
  have HPL := Lib.hid (prB_len rs)
  have HW2 := Lib.hid hw2
  have HMS := Lib.hid hm
  clear hmp hm12 hsto hw2 hm
  rw [HPL.out]
  go_wp2_with fail
  rw [← HMS.out, ← HW2.out]
  obtain ⟨s, hs⟩ : ∃ s, s = m + 1 := ⟨_, rfl⟩
  rw [← hs] at HS2 ⊢
  have HSS := Lib.hid hs
  clear hs
  go_loopw [27] (fun q wr => ∃ i : Nat, i ≤ rs.length ∧ q = .int .i64 i ∧ SoInv w2 wr s p m i rs) (fun q _ => rs.length - (intOf q).toNat)
  case atStart => exact ⟨0, by omega, rfl, HS2.out, Mod.refl _ _⟩
  case round =>
    obtain ⟨i, hi, rfl, hinv⟩ := hrel
    have hi0' : (0 : Int) ≤ (i : Int) := Int.natCast_nonneg _
    have hb2 : w1.heap.size ≤ w2.heap.size := HM12.out.size
    have hm12 : Mod No w1 wr := HM12.out.then hinv.mod (fun q hq e => by have := HMS.out; omega)
    by_cases hlt : i < rs.length
    · have hi1 : (i : Int) < (rs.length : Int) := by omega
      obtain ⟨g, o, c', u, hv, hu, hsl⟩ := (HR1.out.stay hm12).at_ (k := i) (by rw [prB_len]; exact hlt)
      rw [HPL.out] at hv
      cases hv
      have hsp := HSH.out rs[i] (List.getElem_mem hlt)
      have hgi : (prB rs)[i]'(by rw [prB_len]; exact hlt) = pairB rs[i] := by simp [prB]
      rw [hgi] at hsl
      have HPA := Lib.hid (pair_any rs[i] hsp.1 hsp.2 hsl)
      have HCH := Lib.hid (show Mt.changes (fun _ => none) (rs.take (i + 1)) = (Mt.changes (fun _ => none) (rs.take i)).changes [rs[i].norm] by
        rw [List.take_succ_eq_append_getElem hlt, changes_append]
        exact (change_norm _ _).symm)
      have hnsh : ShortP [rs[i].norm] := fun p hp => by
        obtain rfl : p = rs[i].norm := by simpa using hp
        unfold Pr.norm
        dsimp only
        refine ⟨hsp.1, ?_⟩
        split
        · exact Nat.zero_le _
        · exact hsp.2
      have HNS := Lib.hid hnsh
      obtain ⟨ua, uc, rfl⟩ := hsl.len
      generalize (pairB rs[i]).length = ul at *
      generalize rs[i].norm = np at *
      clear hsl hsp hgi hnsh
      obtain ⟨k, x, G⟩ := np
      have HST := Lib.hid hinv
      clear hinv
      go_wp2_with fail
      with_reducible refine HPA.out.mono ?_
      clear HPA
      rintro e w5 ⟨rfl, hm5⟩
      unfold Pr.agg
      dsimp only
      obtain ⟨K, hK⟩ : ∃ K : ByteArray, K = ⟨k.toArray⟩ := ⟨_, rfl⟩
      obtain ⟨V, hV⟩ : ∃ V : ByteArray, V = ⟨x.toArray⟩ := ⟨_, rfl⟩
      rw [← hK, ← hV]
      obtain ⟨pb, hpb⟩ : ∃ pb, pb = w5.heap.size := ⟨_, rfl⟩
      obtain ⟨w6, hw6⟩ : ∃ w6, w6 = w5.alloc (.cells #[.string K, .string V, .bool G] 32) := ⟨_, rfl⟩
      have m6 : Mod No w5 w6 := by rw [hw6]; exact (Mod.refl No w5).alloc _
      have h6 : w6.heap[pb]? = some (.cells #[.string K, .string V, .bool G] 32 (0, 0)) := by rw [hw6, hpb]; exact heap_alloc_new w5 _
      have hst6 := (HST.out.sto.stay hm5).stay m6
      have hm26 := (HST.out.mod.trans ((hm5.trans m6).weaken fun _ _ f => f.elim))
      have hS0 : w6.drew.cell? ⟨s, 1, none⟩ = some (.map (some m)) ∧ w6.drew.cell? ⟨pb, 0, none⟩ = some (.string K) ∧ w6.drew.cell? ⟨pb, 1, none⟩ = some (.string V) ∧ w6.drew.cell? ⟨pb, 2, none⟩ = some (.bool G) := ⟨cell_of (i := 1) hst6.obj rfl, cell_of (i := 0) h6 rfl, cell_of (i := 1) h6 rfl, cell_of (i := 2) h6 rfl⟩
      obtain ⟨g7, hg7⟩ : ∃ g7, g7 = w6.heap.size := ⟨_, rfl⟩
      obtain ⟨w7, hw7⟩ : ∃ w7, w7 = (w6.alloc (.cells #[.string K, .string V, .bool G] 32)).drew := ⟨_, rfl⟩
      have m7 : Mod No w6 w7 := by rw [hw7]; exact ((Mod.refl No w6).alloc _).drew
      have h7 : w7.heap[g7]? = some (.cells #[.string ⟨k.toArray⟩, .string ⟨x.toArray⟩, .bool G] 32 (0, 0)) := by rw [hw7, hg7, ← hK, ← hV]; exact heap_alloc_new w6 _
      have hS1 : w7.cell? ⟨s, 1, none⟩ = some (.map (some m)) ∧ w7.cell? ⟨pb, 0, none⟩ = some (.string K) ∧ w7.cell? ⟨pb, 1, none⟩ = some (.string V) ∧ w7.cell? ⟨pb, 2, none⟩ = some (.bool G) := ⟨m7.cell (cell_of (i := 1) hst6.obj rfl) (fun f => f), m7.cell (cell_of (i := 0) h6 rfl) (fun f => f), m7.cell (cell_of (i := 1) h6 rfl) (fun f => f), m7.cell (cell_of (i := 2) h6 rfl) (fun f => f)⟩
      have hst7 := hst6.stay m7
      have hmlt := hst7.map.lt
      have hml6 := hst6.map.lt
      have hC := change_any (c := 1) (l := [⟨k, x, G⟩]) hst7.map (prs_one (p := ⟨k, x, G⟩) h7 (by omega)) HNS.out (by show i + 1 ≤ _; omega)
      have hC : Calls Tryz.prog 35 #[.map (some m), .slice (some ⟨g7, 0, none⟩) 1 1] w7 fun e w' => e = .returned (.tuple #[]) ∧ SMp w' m (i + 1) ((Mt.changes (fun _ => none) (rs.take i)).changes [⟨k, x, G⟩]) ∧ Mod (fun k => k = m) w7 w' := hC
      have HC := Lib.hid hC
      have HST7 := Lib.hid (And.intro hst7 (hm26.trans (m7.weaken fun _ _ f => f.elim)))
      have HX7 := Lib.hid (And.intro hw6 (And.intro hpb (And.intro hg7 hw7)))
      have hpm : ¬ pb = m := by have := (HST.out.sto.stay hm5).map.lt; omega
      have hsm : ¬ s = m := by have := HSS.out; omega
      clear hm5 hpb hw6 m6 h6 hst6 hm26 hg7 hw7 m7 h7 hst7 hmlt hml6 hC hK hV
      go_upto_region 11 with fail
      rw [← HX7.out.2.1, ← HX7.out.1]
      refine wp_region_T (fun w' => w'.cell? ⟨s, 1, none⟩ = some (.map (some m)) ∧ w'.cell? ⟨pb, 0, none⟩ = some (.string K) ∧ w'.cell? ⟨pb, 1, none⟩ = some (.string V) ∧ w'.cell? ⟨pb, 2, none⟩ = some (.bool G)) 99 (by kernel_rfl) ?_
      refine wpAnyT_takeV 0 (some 38) ?_ rfl rfl (by kernel_rfl) (fun _ _ _ h => h) hS0 (Or.inl ⟨by rfl, ?_⟩) ?_
      rotate_left
      · (intro w' hSw; (try dsimp only at hSw); go_simp; try with_reducible rfl)
      simp only [Act.put, List.setIfInBounds_toArray, List.set_cons_zero, List.set_cons_succ]
      refine wpAnyT_takeV 1 (some 39) ?_ rfl rfl (by kernel_rfl) (fun _ _ _ h => h) hS0 (Or.inl ⟨by rfl, ?_⟩) ?_
      rotate_left
      · (intro w' hSw; (try dsimp only at hSw); go_simp; try with_reducible rfl)
      simp only [Act.put, List.setIfInBounds_toArray, List.set_cons_zero, List.set_cons_succ]
      refine wpAnyT_takeV 2 (some 40) ?_ rfl rfl (by kernel_rfl) (fun _ _ _ h => h) hS0 (Or.inl ⟨by rfl, ?_⟩) ?_
      rotate_left
      · (intro w' hSw; (try dsimp only at hSw); go_simp; try with_reducible rfl)
      simp only [Act.put, List.setIfInBounds_toArray, List.set_cons_zero, List.set_cons_succ]
      refine wpAnyT_takeV 3 (some 41) ?_ rfl rfl (by kernel_rfl) (fun _ _ _ h => h) hS0 (Or.inl ⟨by rfl, ?_⟩) ?_
      rotate_left
      · (intro w' hSw; (try dsimp only at hSw); go_simp; try with_reducible rfl)
      simp only [Act.put, List.setIfInBounds_toArray, List.set_cons_zero, List.set_cons_succ]
      refine wpAnyT_takeV 4 (some 42) (.agg #[.string K, .string V, .bool G]) rfl rfl (by kernel_rfl) (fun _ _ _ h => h) hS0 (Or.inl ⟨by rfl, ?_⟩) ?_
      · (intro w' hSw; (try dsimp only at hSw); obtain ⟨s0, s1, s2, s3⟩ := hSw; go_simp)
      simp only [Act.put, List.setIfInBounds_toArray, List.set_cons_zero, List.set_cons_succ]
      refine wpAnyT_one 5 rfl (by kernel_rfl) rfl ?_
      intro K_ hK
      go_simp
      rw [← HX7.out.2.2.1, ← HX7.out.2.2.2]
      show K_ _ _
      refine hK.out _ _ (fun _ => hS1) ?_
      clear hK K_
      refine wpAnyT_one 6 rfl (by kernel_rfl) rfl ?_
      intro K_ hK
      go_simp
      (go_at_call 35; with_reducible refine HC.out.mono ?_; rintro e w8 ⟨rfl, hmp8, hm8⟩)
      have hS2 : w8.cell? ⟨s, 1, none⟩ = some (.map (some m)) ∧ w8.cell? ⟨pb, 0, none⟩ = some (.string K) ∧ w8.cell? ⟨pb, 1, none⟩ = some (.string V) ∧ w8.cell? ⟨pb, 2, none⟩ = some (.bool G) := ⟨hm8.cell hS1.1 hsm, hm8.cell hS1.2.1 hpm, hm8.cell hS1.2.2.1 hpm, hm8.cell hS1.2.2.2 hpm⟩
      show K_ _ _
      refine hK.out _ _ (fun _ => hS2) ?_
      clear hK K_
      refine wpAnyT_done (by kernel_rfl) ?_ _
      have HE := Lib.hid (And.intro hmp8 hm8)
      clear hmp8 hm8 hS0 hS1 hS2
      go_wp2_with fail
      refine ⟨⟨i + 1, by omega, by go_num, ⟨HST7.out.1.obj |> fun h => HE.out.2.keep h hsm, by rw [HCH.out]; exact HE.out.1⟩, HST7.out.2.trans HE.out.2⟩, by go_light; simp only [intOf]; omega⟩
    · have hil : i = rs.length := by omega
      subst hil
      have hst := hinv.sto
      rw [List.take_length] at hst
      have HF := Lib.hid (And.intro hst (And.intro (HX1.out.1.stay hm12) (HX1.out.2.1.trans hm12)))
      have hz := HX1.out.2.1.size
      clear hinv hst hm12
      go_wp2_with fail
      have hh := HX1.out
      exact fin hR ⟨s, p, m, ub, rfl, HF.out.2.1, HF.out.1, HF.out.2.2, by have := HMS.out; have := HSS.out; omega, hh.2.2.1, hh.2.2.2.1, by have := HMS.out; omega, by have := HMS.out; omega, by have := HMS.out; omega, by have := HMS.out; have := HSS.out; omega, by have := HMS.out; have := HSS.out; omega⟩

end Go.Proofs.YtkeopmfmlciadaaGreat
namespace Go.Proofs.YtkeopmfmlciadaaGreat
open Go.RowKit Go.Maps Go.Shelf

/-- Does a text begin so? -/
def pref (q l : List UInt8) : Bool := decide (l.take q.length = q)

theorem slice_str (l : List UInt8) (n : Nat) (hn : n ≤ l.length) (W : World) : (Instr.slice 9 (.string ⟨l.toArray⟩) none (some (.int .i64 (n : Int))) none).run Tryz.prog W = .ok (.string ⟨(l.take n).toArray⟩) W := by
  rw [run_slice_string_h W 9 _ Tryz.underlying9 .i64 (n : Int) (by omega) (by rw [str_size_list]; omega)]
  congr 2
  apply ByteArray.ext
  apply Array.toList_inj.1
  rw [Lib.extract_data]
  simp

set_option maxRecDepth 100000 in
theorem lpref_any (q l : List UInt8) (w : World) :
    Calls Tryz.prog 70 #[.string ⟨l.toArray⟩, .string ⟨q.toArray⟩] w fun e w' => e = .returned (.bool (pref q l)) ∧ w' = w := by
  refine calls_hide fun R hR => ?_
  have h1 := str_size_list l
  have h2 := str_size_list q
  by_cases h : q.length ≤ l.length
  · have hs := slice_str l q.length h w
    have HP := Lib.hid (show pref q l = ((⟨(l.take q.length).toArray⟩ : ByteArray).toList == (⟨q.toArray⟩ : ByteArray).toList) by
      unfold pref
      rw [ByteArray.toList_eq, ByteArray.toList_eq, Bool.eq_iff_iff]
      simp)
    generalize hL : (⟨l.toArray⟩ : ByteArray) = L at *
    generalize hQ : (⟨q.toArray⟩ : ByteArray) = Q at *
    generalize hT : (⟨(l.take q.length).toArray⟩ : ByteArray) = T at *
    rw [← h2] at hs
    have hle : (Q.size : Int) ≤ (L.size : Int) := by omega
    clear hL hQ hT h1 h2 h
    go_enter Tryz.func70, Tryz.ntmps70
    go_wp2_with fail
    exact fin hR ⟨by rw [HP.out]; rfl, rfl⟩
  · have HP := Lib.hid (show pref q l = false by
      unfold pref
      refine decide_eq_false fun e => h ?_
      have := congrArg List.length e
      rw [List.length_take] at this; omega)
    generalize hL : (⟨l.toArray⟩ : ByteArray) = L at *
    generalize hQ : (⟨q.toArray⟩ : ByteArray) = Q at *
    have hle : (L.size : Int) < (Q.size : Int) := by omega
    clear hL hQ h1 h2 h
    go_enter Tryz.func70, Tryz.ntmps70
    go_wp2_with fail
    exact fin hR ⟨by rw [HP.out]; rfl, rfl⟩

theorem pref_any (q l : List UInt8) (w : World) :
    Calls Tryz.prog 44 #[.string ⟨l.toArray⟩, .string ⟨q.toArray⟩] w fun e w' => e = .returned (.bool (pref q l)) ∧ w' = w := by
  refine calls_hide fun R hR => ?_
  have HC := Lib.hid (lpref_any q l w)
  generalize (⟨l.toArray⟩ : ByteArray) = L at *
  generalize (⟨q.toArray⟩ : ByteArray) = Q at *
  go_enter Tryz.func44, Tryz.ntmps44
  go_wp2_with fail
  with_reducible refine HC.out.mono ?_
  rintro e w' ⟨rfl, h2⟩
  subst h2
  go_wp2_with fail
  exact fin hR ⟨rfl, rfl⟩

theorem info_str : (Tryz.prog.info? 9).map (fun i => (i.zero, i.size, i.bytes)) = some (some (.string ⟨#[]⟩), 1, 16) := by kernel_rfl

set_option maxRecDepth 100000 in
set_option maxHeartbeats 4000000 in
theorem skeys_any {w : World} {s p m n : Nat} {M : Mt} {down : Bool} (h : StoAt w s p m n M down) (hn : n ≤ 100000) (q : List UInt8) :
    Calls Tryz.prog 15 #[.pointer (some ⟨s, 0, none⟩), .string ⟨q.toArray⟩] w fun e w' => ∃ v ks, e = .returned v ∧ KeysOfM M ks ∧ w'.ownsRow w.heap.size 9 1 v (ks.filter (pref q)).length ((ks.filter (pref q)).map encStr) ∧ Mod No w w' := by
  obtain ⟨i0, hi0, hz0, hz1, hz2⟩ := info_parts info_str
  refine calls_hide fun R hR => ?_
  have H := Lib.hid h
  have c1 := cell_of (i := 1) h.obj rfl
  have HSK := Lib.hid (sorted_keys h.map (by omega))
  clear h
  go_enter Tryz.func15, Tryz.ntmps15
  go_wp2_with fail
  with_reducible refine (keysS_any (some m) w).mono ?_
  rintro e w' ⟨rfl, h2⟩
  subst h2
  go_wp2_with fail
  with_reducible refine HSK.out.mono ?_
  clear HSK
  rintro e w2 ⟨v2, ks, rfl, hks, hkl, ho, hm2⟩
  obtain ⟨va, vc, rfl⟩ := own_len ho
  have HKS := Lib.hid hks
  have HO := Lib.hid ho
  have HM2 := Lib.hid hm2
  have hkb : ks.length ≤ 100000 := by omega
  obtain ⟨base, hbase⟩ : ∃ base, base = w2.heap.size := ⟨_, rfl⟩
  have HBASE := Lib.hid hbase
  clear hks hkl ho hm2 hbase
  go_wp2_with fail
  go_loopw [5, 15] (fun u x wr => ∃ i : Nat, i ≤ ks.length ∧ x = .int .i64 i ∧ wr.ownsRow base 9 1 u ((ks.take i).filter (pref q)).length (((ks.take i).filter (pref q)).map encStr) ∧ Mod No w2 wr) (fun _ x _ => ks.length - (intOf x).toNat)
  case atStart => exact ⟨0, by omega, rfl, World.ownsRow_nil _ _ _ _, Mod.refl _ _⟩
  case round =>
    obtain ⟨i, hi, rfl, hown, hmod⟩ := hrel
    have hi0' : (0 : Int) ≤ (i : Int) := Int.natCast_nonneg _
    by_cases hlt : i < ks.length
    · have hi1 : (i : Int) < (ks.length : Int) := by omega
      obtain ⟨g, gc, hv, hgb⟩ := own_shape HO.out (by omega)
      cases hv
      have hc := (HO.out.cells (g := g) rfl i (.string ⟨ks[i].toArray⟩) (by rw [List.getElem?_map, List.getElem?_eq_getElem hlt]; rfl))
      have hc : w2.cell? ⟨g, i, none⟩ = some (.string ⟨ks[i].toArray⟩) := by simpa [Addr.add_lit] using hc
      have hc := hmod.cell hc (fun f => f)
      have HPF := Lib.hid (pref_any q ks[i] wr)
      have HT := Lib.hid (show (ks.take (i + 1)).filter (pref q) = (ks.take i).filter (pref q) ++ if pref q ks[i] then [ks[i]] else [] by
        rw [List.take_succ_eq_append_getElem hlt, List.filter_append]
        congr 1
        simp [List.filter_cons])
      have hfl : ((ks.take i).filter (pref q)).length ≤ 100000 := Nat.le_trans (List.length_filter_le _ _) (by rw [List.length_take]; omega)
      have HEN := Lib.hid (show encStr ks[i] = .string ⟨ks[i].toArray⟩ from rfl)
      generalize (ks.take i).filter (pref q) = done at *
      generalize pref q ks[i] = yes at *
      generalize ks[i] = k at *
      generalize (⟨k.toArray⟩ : ByteArray) = K at *
      have HOWN := Lib.hid hown
      have HMOD := Lib.hid hmod
      obtain ⟨ua, uc, rfl⟩ := own_len hown
      clear hown hmod
      go_wp2_with fail
      with_reducible refine HPF.out.mono ?_
      clear HPF
      rintro e w5 ⟨rfl, h2⟩
      subst h2
      cases yes with
      | true =>
        have hm5 : Mod No w5 (w5.alloc (.cells #[.string K] 9)) := (Mod.refl No w5).alloc _
        have HO5 := Lib.hid (own_keepM HOWN.out hm5 (fun _ _ f => f))
        have HBX := Lib.hid (show Sl (w5.alloc (.cells #[.string K] 9)) No 9 (.slice (some ⟨w5.heap.size, 0, none⟩) 1 1) 1 [.string K] from
          .inr ⟨w5.heap.size, 0, 1, #[.string K], (0, 0), rfl, Nat.le_refl _, by unfold maxLen; omega, fun f => f, heap_alloc_new w5 _, Nat.le_refl _, fun i hi => by simp⟩)
        have HM5 := Lib.hid (HMOD.out.trans hm5)
        have hb5 : base ≤ (w5.alloc (.cells #[.string K] 9)).heap.size := by have := HM5.out.size; have := HBASE.out; omega
        have h1c : ∀ y ∈ [Value.string K], y.oneCell' = true := by
          intro y hy
          simp at hy
          subst hy
          rfl
        have H1C := Lib.hid h1c
        clear hm5 h1c
        go_wp2_with (at_builtin; refine app_sl _ rfl _ _ 22 rfl base 9 i0 (.string ⟨#[]⟩) 1 16 Tryz.underlying22 hi0 hz0 hz1 hz2 rfl (by decide) _ _ _ rfl HO5.out No 9 _ _ _ rfl HBX.out rfl H1C.out ?_ ?_ hb5 ?_)
        · unfold maxLen; omega
        · omega
        intro v' w6 hown6 hg6 _
        have HR6 := Lib.hid (show w6.ownsRow base 9 1 v' (done ++ [k]).length ((done ++ [k]).map encStr) by
          rw [List.length_append, List.map_append]
          show w6.ownsRow base 9 1 v' (done.length + 1) (done.map encStr ++ [encStr k])
          rw [HEN.out]; exact hown6)
        have HM6 := Lib.hid (HM5.out.then (Mod.of_grown (S := fun q => base ≤ q) hg6 (fun q e _ => (HO5.out.lt _ e).1)) (fun q hq e => by have := HBASE.out; omega))
        clear hown6 hg6 HO5 HBX HM5 H1C
        go_wp2_with fail
        exact ⟨⟨i + 1, by omega, by go_num, by rw [HT.out]; exact HR6.out, HM6.out⟩, by go_light; simp only [intOf]; omega⟩
      | false =>
        go_wp2_with fail
        exact ⟨⟨i + 1, by omega, by go_num, by rw [HT.out]; simpa using HOWN.out, HMOD.out⟩, by go_light; simp only [intOf]; omega⟩
    · have hil : i = ks.length := by omega
      subst hil
      rw [List.take_length] at hown
      have hmw := HM2.out.trans hmod
      obtain ⟨hl0, hrow⟩ := hown
      have HF := Lib.hid (show wr.ownsRow w.heap.size 9 1 _ (ks.filter (pref q)).length ((ks.filter (pref q)).map encStr) from ⟨hl0, hrow.imp (fun h => h) (by
        rintro ⟨g, cap, cur, hv, hg, r⟩
        exact ⟨g, cap, cur, hv, by have := HBASE.out; have := HM2.out.size; omega, r⟩)⟩)
      have HMW := Lib.hid hmw
      clear hl0 hrow hmw hmod
      go_wp2_with fail
      exact fin hR ⟨_, ks, rfl, HKS.out, HF.out, HMW.out⟩

end Go.Proofs.YtkeopmfmlciadaaGreat
namespace Go.Proofs.YtkeopmfmlciadaaGreat
open Go.RowKit Go.Maps Go.Sort Go.Shelf

/-- How many bytes an entry has. -/
def wt (M : Mt) (k : List UInt8) : Nat := k.length + ((M k).getD []).length

/-- What was added up, where left is yet to come. -/
def doneSum (M : Mt) (ks : List (List UInt8)) (left : Lit → Bool) : Nat := ((ks.filter fun k => !left (.string k)).map (wt M)).sum

theorem sameKey_str (x k : List UInt8) : (Lit.string x).sameKey (.string k) = decide (x = k) := by
  rw [Bool.eq_iff_iff, WideAt.sameKey_iff (isKey_str _)]
  simp

theorem doneSum_next (M : Mt) (left : Lit → Bool) (k : List UInt8) (hl : left (.string k) = true) : ∀ ks : List (List UInt8), ks.Nodup → doneSum M ks (fun z => left z && !z.sameKey (.string k)) = doneSum M ks left + if k ∈ ks then wt M k else 0
  | [], _ => by simp [doneSum]
  | x :: ks, hn => by
    have hn' := List.nodup_cons.1 hn
    have ih := doneSum_next M left k hl ks hn'.2
    unfold doneSum at ih ⊢
    by_cases hx : x = k
    · subst hx
      rw [if_neg hn'.1] at ih
      simp only [List.filter_cons, sameKey_str, hl, decide_true, Bool.not_true, Bool.and_false, Bool.not_false, if_true, List.map_cons, List.sum_cons, Bool.false_eq_true, if_false, List.mem_cons, true_or] at ih ⊢
      omega
    · have e : (left (.string x) && !(Lit.string x).sameKey (.string k)) = left (.string x) := by rw [sameKey_str]; simp [hx]
      rw [show (if k ∈ x :: ks then wt M k else 0) = (if k ∈ ks then wt M k else 0) from by by_cases h : k ∈ ks <;> simp [h, Ne.symm hx]]
      simp only [List.filter_cons, e]
      cases left (.string x) with
      | true => simpa using ih
      | false =>
        simp only [Bool.not_false, if_true, List.map_cons, List.sum_cons]
        rw [show (List.map (wt M) (List.filter (fun k_1 => !(left (Lit.string k_1) && !(Lit.string k_1).sameKey (Lit.string k))) ks)).sum = _ from ih]
        omega

theorem doneSum_le (M : Mt) (left : Lit → Bool) : ∀ ks : List (List UInt8), doneSum M ks left ≤ (ks.map (wt M)).sum
  | [] => by simp [doneSum]
  | x :: ks => by
    have ih := doneSum_le M left ks
    unfold doneSum at ih ⊢
    simp only [List.filter_cons, List.map_cons, List.sum_cons]
    split
    · simp only [List.map_cons, List.sum_cons]; omega
    · omega

set_option maxRecDepth 100000 in
set_option maxHeartbeats 4000000 in
theorem ssize_any {w : World} {s p m n : Nat} {M : Mt} {down : Bool} {ks : List (List UInt8)} (h : StoAt w s p m n M down) (hks : KeysOfM M ks) (hb : (ks.map (wt M)).sum ≤ 1000000000000) :
    Calls Tryz.prog 16 #[.pointer (some ⟨s, 0, none⟩)] w fun e w' => e = .returned (.int .i64 ((ks.map (wt M)).sum : Nat)) ∧ Mod No w w' := by
  refine calls_hide fun R hR => ?_
  have c1 := cell_of (i := 1) h.obj rfl
  obtain ⟨D, d1, d2, d3⟩ := h.map.row
  have hmw := h.map.lt
  have HMp := Lib.hid d1
  have HD := Lib.hid d3
  have HKS := Lib.hid hks
  obtain ⟨tot, htot⟩ : ∃ tot, tot = (ks.map (wt M)).sum := ⟨_, rfl⟩
  have HTOT := Lib.hid htot
  rw [← htot] at hb hR
  clear h d1 d2 d3 hks htot
  go_enter Tryz.func16, Tryz.ntmps16
  go_wp2_with (at_range; refine wpList_range_own _ rfl _ 40 rfl 9 9 key_str Tryz.underlying40 heldR m (Maps.size D) D rfl HMp.out ?_; intro w0 hrg0 hg0 hs0)
  go_frame
  have hmr : Mod No w w0 := Mod.of_grown hg0 (fun k e _ => by cases e)
  have HRG0 := Lib.hid hrg0
  have HMR := Lib.hid hmr
  have hd0 : doneSum M ks (Maps.has D) = 0 := by
    unfold doneSum
    have : ks.filter (fun k => !Maps.has D (.string k)) = [] := by
      rw [List.filter_eq_nil_iff]
      intro k hk
      obtain ⟨v, hv⟩ := Option.isSome_iff_exists.1 ((HKS.out.mem k).1 hk)
      rw [((HD.out k).2 v hv).1]; simp
    rw [this]; rfl
  have HD0 := Lib.hid hd0
  obtain ⟨r, hr⟩ : ∃ r, r = w.heap.size := ⟨_, rfl⟩
  rw [← hr] at HRG0 ⊢
  have HRR := Lib.hid hr
  clear hrg0 hg0 hs0 hmr hd0 hr
  go_loopw [3] (fun x wr => ∃ (left : Lit → Bool) (cnt k : Nat), x = .int .i64 (k : Int) ∧ k = doneSum M ks left ∧ wr.ranges Tryz.prog 9 heldR m r (Maps.size D) D left cnt ∧ Mod No w wr) (fun _ wr => wr.rangeLeft m r)
  case atStart => exact ⟨_, _, 0, rfl, HD0.out.symm, HRG0.out, HMR.out⟩
  case round =>
    obtain ⟨left, cnt, k, rfl, hk, hrg, hmod⟩ := hrel
    have RG := Lib.hid hrg
    have MO := Lib.hid hmod
    have HK := Lib.hid hk
    have hkt : k ≤ tot := by rw [hk, HTOT.out]; exact doneSum_le M left ks
    clear hrg hmod hk
    go_wp2_with (at_next; refine wpList_next_ranges _ rfl _ rfl 9 key_str heldR Go.Proofs.encStr (fun v : Value => v) (fun key kl hk => by obtain ⟨x, hx, _⟩ := Maps.keyOf_str Tryz.underlying9 hk; exact ⟨x, hx⟩) (fun v y _ => ⟨v, rfl⟩) m r (Maps.size D) D left cnt rfl RG.out ?_ ?_)
    · intro _ hl0
      have HE := Lib.hid (show k = tot by
        rw [HK.out, HTOT.out]; unfold doneSum
        congr 2
        exact List.filter_eq_self.2 fun x _ => by rw [hl0]; rfl)
      clear hl0
      go_wp2_with fail
      exact fin hR ⟨by rw [← HE.out]; rfl, MO.out⟩
    · intro x c kl ya yb w1 cnt1 hkey hleft hy hat hrg1 hlt hg1 hs1 hen
      cases hy
      obtain ⟨x', hx', hkl, -⟩ := Maps.keyOf_str Tryz.underlying9 hkey
      obtain rfl := encStr_inj hx'
      subst hkl
      have hhas : Maps.has D (.string x) = true := Maps.has_true_of_atKey (y := .held c) (fun zd => hat zd)
      obtain ⟨v, hv⟩ : ∃ v, M x = some v := by
        cases hM : M x with
        | none => have := (HD.out x).1 hM; rw [hhas] at this; cases this
        | some v => exact ⟨v, rfl⟩
      have hcv : c = .string ⟨v.toArray⟩ := by
        have h1 := hat .nil
        rw [((HD.out x).2 v hv).2] at h1
        simpa using h1.symm
      subst hcv
      have hin : x ∈ ks := (HKS.out.mem x).2 (by rw [hv]; rfl)
      have hnx := doneSum_next M left x hleft ks HKS.out.nodup
      rw [if_pos hin, ← HK.out] at hnx
      have hwt : wt M x = x.length + v.length := by unfold wt; rw [hv]; rfl
      rw [hwt] at hnx
      have hle2 := doneSum_le M (fun z => left z && !z.sameKey (.string x)) ks
      rw [← HTOT.out, hnx] at hle2
      have hm1 : Mod (· = r) wr w1 := Mod.of_grown hg1 (by rintro k ⟨⟩ _; rfl)
      have hm01 : Mod No w w1 := MO.out.then hm1 (fun q hq e => by have e' : q = r := e; have := HRR.out; omega)
      have RG1 := Lib.hid hrg1
      have M01 := Lib.hid hm01
      have HNX := Lib.hid hnx
      have hxs := str_size_list x
      have hvs := str_size_list v
      have HEN := Lib.hid (show Go.Proofs.encStr x = .string ⟨x.toArray⟩ from rfl)
      rw [HEN.out] at hen ⊢
      generalize (⟨x.toArray⟩ : ByteArray) = X at *
      generalize (⟨v.toArray⟩ : ByteArray) = V at *
      have hLT := Lib.hid hlt
      clear hkey hleft hat hrg1 hlt hg1 hs1 hhas hv hin hnx hwt hm1 hm01
      go_wp2_with fail
      exact ⟨⟨_, cnt1, k + (x.length + v.length), by go_num, HNX.out.symm, RG1.out, M01.out⟩, by rw [RG1.out.left_eq, RG.out.left_eq]; exact hLT.out⟩

end Go.Proofs.YtkeopmfmlciadaaGreat
namespace Go.Proofs.YtkeopmfmlciadaaGreat
open Go.RowKit Go.Maps Go.Sort Go.Shelf

/-- A map has no more keys than a list that has them all. -/
theorem SMp.bound {w : World} {m n : Nat} {M : Mt} (h : SMp w m n M) (K : List (List UInt8)) (hK : ∀ k, (M k).isSome = true → k ∈ K) : SMp w m K.length M := by
  obtain ⟨D, d1, d2, d3⟩ := h.row
  refine ⟨D, d1, ?_, d3⟩
  obtain ⟨k1, k2, k3⟩ := keys_sorted (n := Maps.size D) d1 (Nat.le_refl _) d3 (List.Perm.refl (strKeys D))
  have h1 : (strKeys D).length = Maps.size D := by
    obtain ⟨es, hD, -⟩ := d1.tidy key_str
    rw [hD]; simp [strKeys, Maps.size_eq]
  rw [← h1, k3]
  exact k1.nodup.length_le_of_subset fun k hk => hK k ((k1.mem k).1 hk)

/-- What is opened, as a store. -/
theorem Sto.mk' {w0 w w' : World} {N sz b s p m ub sb mb n cnt : Nat} {d : Dk} {L : Lg} {rs : List Pr} {M : Mt} {O : Nat → Prop} (hL : LogHas w' p b sb mb ub d L) (h2 : d.n = N) (h3 : d.sz = sz) (hst : StoAt w' s p m n M false) (h5 : L.all = prB rs) (h6 : Mt.changes (fun _ => none) rs = M) (hsh : ShortP rs) (h7 : L.turn ≤ cnt)
    (hO : ∀ q, Own3 b sb mb q → O q) (hlow : ∀ q, O q → w0.heap.size ≤ q) (hhigh : ∀ q, O q → q < w.heap.size) (h0 : Mod No w0 w) (hm : Mod No w w') (hs : w.heap.size ≤ s) (hp : w.heap.size ≤ p) (hu : w.heap.size ≤ ub) (hmm : w.heap.size ≤ m) (pm : p < m) (um : ub < m) (ps : p < s) (us : ub < s) :
    ∃ O', Sto w0 w' N sz b s O' n M cnt ∧ ∀ q, q < w.heap.size → O' q → O q := by
  have hz := h0.size
  refine ⟨fun q => O q ∨ q = s ∨ q = p ∨ q = m ∨ q = ub, ⟨⟨p, m, sb, mb, ub, d, L, rs, hL, h2, h3, hst, h5, h6, hsh, h7, fun q e => ?_, fun e => ?_, fun e => ?_⟩, fun q e => ?_, fun q e => ?_, h0.trans hm⟩, fun q hq e => ?_⟩
  · rcases e with (e | e | e) | e | e
    · exact .inl (hO q e)
    · exact .inr (.inr (.inr (.inr e)))
    · exact .inr (.inr (.inl e))
    · exact .inr (.inl e)
    · exact .inr (.inr (.inr (.inl e)))
  · rcases e with e | e | e
    · have := hhigh _ (hO _ e); omega
    · omega
    · omega
  · rcases e with e | e | e
    · have := hhigh _ (hO _ e); omega
    · omega
    · omega
  · rcases e with e | e | e | e | e
    · exact hlow q e
    all_goals omega
  · rcases e with e | e | e | e | e
    · have := hhigh q e; have := hm.size; omega
    · subst e; exact lt_of_heap hst.obj
    · subst e; exact hL.lt (.inr (.inr rfl))
    · subst e; exact hst.map.lt
    · subst e; exact hL.lt (.inr (.inl rfl))
  · rcases e with e | e | e | e | e
    · exact e
    all_goals omega

theorem Sto.reopen {w0 w : World} {N sz b s n cnt : Nat} {O : Nat → Prop} {M : Mt} (h : Sto w0 w N sz b s O n M cnt) (K : List (List UInt8)) (hK : ∀ k, (M k).isSome = true → k ∈ K) :
    Calls Tryz.prog 12 #[.pointer (some ⟨b, 0, none⟩)] w fun e w' => ∃ s' O', e = .returned (.tuple #[.pointer (some ⟨s', 0, none⟩), .int .i64 0]) ∧ Sto w0 w' N sz b s' O' K.length M cnt ∧ (∀ q, q < w.heap.size → O' q → O q) ∧ Mod No w w' := by
  obtain ⟨p, m, sb, mb, ub, d, L, rs, h1, h2, h3, h4, h5, h6, hsh, h7, h8, h9, h10⟩ := h.has
  have hrl : rs.length ≤ 100000000 := by
    have := h1.bounds.2.2.2.2
    rw [h5, prB_len] at this; omega
  refine (sopen_any h1.n h1.sz h1.well h1.disk h1.ok h5 hsh hrl).mono ?_
  rintro e w' ⟨s', p', m', ub', rfl, hL, hst, hm, hs, hp, hu, hmm, pm, um, ps, us⟩
  rw [h6] at hst
  have hst' : StoAt w' s' p' m' K.length M false := ⟨hst.obj, hst.map.bound K hK⟩
  obtain ⟨O', hsto, hO'⟩ := Sto.mk' hL h2 h3 hst' h5 h6 hsh h7 (fun q e => h8 q (.inl (.inl e))) h.low h.high h.mod hm hs hp hu hmm pm um ps us
  exact ⟨s', O', rfl, hsto, hO', hm⟩

theorem Sto.first {w0 w : World} {n z : Int} {N sz b sb mb : Nat} (hN : (Dk.new n z).n = N) (hz : (Dk.new n z).sz = sz) (hN2 : 16 ≤ N) (hz2 : 128 ≤ sz) (hd : DkAt w No b sb mb (Dk.new n z)) (hb : w0.heap.size ≤ b ∧ w0.heap.size ≤ sb ∧ w0.heap.size ≤ mb) (hm0 : Mod No w0 w) :
    Calls Tryz.prog 12 #[.pointer (some ⟨b, 0, none⟩)] w fun e w' => ∃ s O, e = .returned (.tuple #[.pointer (some ⟨s, 0, none⟩), .int .i64 0]) ∧ Sto w0 w' N sz b s O 0 (fun _ => none) 0 ∧ (∀ q, q < w.heap.size → O q → Own3 b sb mb q) ∧ Mod No w w' := by
  refine (sopen_any (L := ⟨0, 0, 0, []⟩) (rs := []) (by rw [hN]; exact hN2) (by rw [hz]; exact hz2) (new_well n z) hd (new_log n z) rfl (fun p hp => by cases hp) (by decide)).mono ?_
  rintro e w' ⟨s', p', m', ub', rfl, hL, hst, hm, hs, hp, hu, hmm, pm, um, ps, us⟩
  obtain ⟨O', hsto, hO'⟩ := Sto.mk' (w0 := w0) (O := Own3 b sb mb) (cnt := 0) hL hN hz hst (rs := []) rfl rfl (fun p hp => by cases hp) (Nat.le_refl _) (fun _ e => e) (fun q e => by rcases e with e | e | e <;> omega) (fun q e => hd.lt e) hm0 hm hs hp hu hmm pm um ps us
  exact ⟨s', O', rfl, hsto, hO', hm⟩

theorem Sto.keys {w0 w : World} {N sz b s n cnt : Nat} {O : Nat → Prop} {M : Mt} (h : Sto w0 w N sz b s O n M cnt) (hn : n ≤ 100000) (q : List UInt8) :
    Calls Tryz.prog 15 #[.pointer (some ⟨s, 0, none⟩), .string ⟨q.toArray⟩] w fun e w' => ∃ v ks, e = .returned v ∧ KeysOfM M ks ∧ w'.ownsRow w.heap.size 9 1 v (ks.filter (pref q)).length ((ks.filter (pref q)).map encStr) ∧ Mod No w w' := by
  obtain ⟨p, m, sb, mb, ub, d, L, rs, h1, h2, h3, h4, h5⟩ := h.has
  exact skeys_any h4 hn q

theorem Sto.size {w0 w : World} {N sz b s n cnt : Nat} {O : Nat → Prop} {M : Mt} {ks : List (List UInt8)} (h : Sto w0 w N sz b s O n M cnt) (hks : KeysOfM M ks) (hb : (ks.map (wt M)).sum ≤ 1000000000000) :
    Calls Tryz.prog 16 #[.pointer (some ⟨s, 0, none⟩)] w fun e w' => e = .returned (.int .i64 ((ks.map (wt M)).sum : Nat)) ∧ Mod No w w' := by
  obtain ⟨p, m, sb, mb, ub, d, L, rs, h1, h2, h3, h4, h5⟩ := h.has
  exact ssize_any h4 hks hb

end Go.Proofs.YtkeopmfmlciadaaGreat
namespace Go.Proofs.YtkeopmfmlciadaaGreat
open Go.RowKit Go.Maps Go.Sort

theorem Sto.keepM {S : Nat → Prop} {w0 w w' : World} {N sz b s n cnt : Nat} {O : Nat → Prop} {M : Mt} (h : Sto w0 w N sz b s O n M cnt) (hm : Mod S w w') (hO : ∀ q, O q → ¬ S q) (hb : ∀ q cur fz, S q → w.heap[q]? ≠ some (.cells cur 5 fz)) (hl : ∀ q, q < w0.heap.size → ¬ S q) : Sto w0 w' N sz b s O n M cnt := by
  obtain ⟨p, m, sb, mb, ub, d, L, rs, h1, h2, h3, h4, h5, h6, h7, h8, h9, h10⟩ := h.has
  exact ⟨⟨p, m, sb, mb, ub, d, L, rs, h1.keepS hm (fun q e => hO q (h9 q (.inl e))) hb, h2, h3, h4.keep hm (hO _ (h9 s (.inr (.inl rfl)))) (hO _ (h9 m (.inr (.inr rfl)))), h5, h6, h7, h8, h9, h10⟩, h.low, fun q hq => Nat.lt_of_lt_of_le (h.high q hq) hm.size, h.mod.then hm fun i hi e => hl i hi e⟩

/-- What a store owns, and nothing else; none of it is a row of bytes. -/
theorem Sto.tight {w0 w : World} {N sz b s n cnt : Nat} {O : Nat → Prop} {M : Mt} (h : Sto w0 w N sz b s O n M cnt) :
    ∃ O', Sto w0 w N sz b s O' n M cnt ∧ (∀ q, O' q → O q) ∧ ∀ q cur fz, O' q → w.heap[q]? ≠ some (.cells cur 5 fz) := by
  obtain ⟨p, m, sb, mb, ub, d, L, rs, h1, h2, h3, h4, h5, h6, h7, h8, h9, h10⟩ := h.has
  refine ⟨fun q => LOwn p b sb mb ub q ∨ q = s ∨ q = m, ⟨⟨p, m, sb, mb, ub, d, L, rs, h1, h2, h3, h4, h5, h6, h7, h8, fun q e => e, h10⟩, fun q e => h.low q (h9 q e), fun q e => h.high q (h9 q e), h.mod⟩, h9, fun q cur fz e => ?_⟩
  rcases e with (e | e | e) | e | e
  · exact h1.disk.not_bytes e cur fz
  · subst e
    intro f
    obtain ⟨es, c, hb⟩ := h1.at_.undone.heap
    rw [hb] at f; cases f
  · subst e
    intro f
    have := h1.at_.obj
    rw [this] at f
    unfold LgObj at f
    cases f
  · subst e
    intro f
    rw [h4.obj] at f; cases f
  · subst e
    exact h4.map.not_cells cur _ fz

theorem Sto.base {w0 w1 w : World} {N sz b s n cnt : Nat} {O : Nat → Prop} {M : Mt} (h : Sto w1 w N sz b s O n M cnt) (hm : Mod No w0 w1) : Sto w0 w N sz b s O n M cnt :=
  ⟨h.has, fun q e => Nat.le_trans hm.size (h.low q e), h.high, hm.trans h.mod⟩

end Go.Proofs.YtkeopmfmlciadaaGreat
