/-
  DiskBounds: for every n and size the law returns true. No conditions beyond the given statement's own.
-/
import Derived.Test.YtjmnpfbinjlegaaLaw3
namespace Go.Proofs.Ytjmnpfbinjlegaa
open Go.RowKit Go.Maps

theorem ends_new (n size : Int) : ((Dk.new n size).n : Int) = min (max n 1) 4096 ∧ ((Dk.new n size).sz : Int) = min (max size 64) 4096 := by
  unfold Dk.new
  constructor
  · show (((min (max n 1) 4096).toNat : Nat) : Int) = _
    omega
  · show (((min (max size 64) 4096).toNat : Nat) : Int) = _
    omega

/-- New, with what its calls tell. -/
theorem new_told (n s vN vS : Int) (w : World) (h1 : min (max n 1) 4096 = vN) (h2 : min (max s 64) 4096 = vS) :
    Calls Try.prog 8 #[.int .i64 n, .int .i64 s] w fun e w' => ∃ b, e = .returned (.pointer (some ⟨b, 0, none⟩)) ∧ Mod No w w' ∧
      Calls Try.prog 9 #[.pointer (some ⟨b, 0, none⟩)] w' (fun e w2 => e = .returned (.int .i64 vN) ∧ w' = w2) ∧
      Calls Try.prog 10 #[.pointer (some ⟨b, 0, none⟩)] w' (fun e w2 => e = .returned (.int .i64 vS) ∧ w' = w2) := by
  refine (disk_new No n s w (fun _ f => f.elim)).mono ?_
  rintro e w' ⟨b, sb, mb, rfl, _, _, _, hd, hm⟩
  have e1 := sectors_ok hd
  have e2 := size_ok hd
  rw [(ends_new n s).1, h1] at e1
  rw [(ends_new n s).2, h2] at e2
  exact ⟨b, rfl, hm, e1, e2⟩


set_option maxHeartbeats 400000 in
theorem boundsA (n size : Int) (w : World) (h0 : 20 < n) (h1 : 100 < size) :
    Calls Try.prog 3 #[.int .i64 n, .int .i64 size] w fun e w' => e = .returned (.bool true) ∧ Mod No w w' := by
  refine calls_hide fun R hR => ?_
  have HN := Lib.hid (fun w => new_told n (64) (min (max n 1) 4096) (min (max (64) 64) 4096) w rfl rfl)
  have HK := Lib.hid known3_any
  go_enter Try.func3, Try.ntmps3
  go_wp2_with (first | (go_at_call 7; refine (HK.out _).mono ?_; rintro e w1 ⟨rfl, hm1⟩; have M1 := Lib.hid hm1; clear hm1) | (go_at_call 8; refine (HN.out _).mono ?_; rintro e w2 ⟨b, rfl, hm2, hS, hZ⟩; have M2 := Lib.hid hm2; have HS := Lib.hid hS; have HZ := Lib.hid hZ; clear hm2 hS hZ) | (go_at_call 9; refine HS.out.mono ?_; rintro e w' ⟨rfl, rfl⟩) | (go_at_call 10; refine HZ.out.mono ?_; rintro e w' ⟨rfl, rfl⟩))
  exact fin hR ⟨rfl, M1.out.trans M2.out⟩

set_option maxHeartbeats 400000 in
theorem boundsB (n size : Int) (w : World) (h0 : 20 < n) (h1 : size ≤ 100) :
    Calls Try.prog 3 #[.int .i64 n, .int .i64 size] w fun e w' => e = .returned (.bool true) ∧ Mod No w w' := by
  refine calls_hide fun R hR => ?_
  have HN := Lib.hid (fun w => new_told n (min size 70000) (min (max n 1) 4096) (min (max (min size 70000) 64) 4096) w rfl rfl)
  have HK := Lib.hid known3_any
  go_enter Try.func3, Try.ntmps3
  go_wp2_with (first | (go_at_call 7; refine (HK.out _).mono ?_; rintro e w1 ⟨rfl, hm1⟩; have M1 := Lib.hid hm1; clear hm1) | (go_at_call 8; refine (HN.out _).mono ?_; rintro e w2 ⟨b, rfl, hm2, hS, hZ⟩; have M2 := Lib.hid hm2; have HS := Lib.hid hS; have HZ := Lib.hid hZ; clear hm2 hS hZ) | (go_at_call 9; refine HS.out.mono ?_; rintro e w' ⟨rfl, rfl⟩) | (go_at_call 10; refine HZ.out.mono ?_; rintro e w' ⟨rfl, rfl⟩))
  exact fin hR ⟨rfl, M1.out.trans M2.out⟩

set_option maxHeartbeats 400000 in
theorem boundsC (n size : Int) (w : World) (h0 : n ≤ 20) :
    Calls Try.prog 3 #[.int .i64 n, .int .i64 size] w fun e w' => e = .returned (.bool true) ∧ Mod No w w' := by
  refine calls_hide fun R hR => ?_
  have HN := Lib.hid (fun w => new_told n (min size 70000) (min (max n 1) 4096) (min (max (min size 70000) 64) 4096) w rfl rfl)
  have HK := Lib.hid known3_any
  go_enter Try.func3, Try.ntmps3
  go_wp2_with (first | (go_at_call 7; refine (HK.out _).mono ?_; rintro e w1 ⟨rfl, hm1⟩; have M1 := Lib.hid hm1; clear hm1) | (go_at_call 8; refine (HN.out _).mono ?_; rintro e w2 ⟨b, rfl, hm2, hS, hZ⟩; have M2 := Lib.hid hm2; have HS := Lib.hid hS; have HZ := Lib.hid hZ; clear hm2 hS hZ) | (go_at_call 9; refine HS.out.mono ?_; rintro e w' ⟨rfl, rfl⟩) | (go_at_call 10; refine HZ.out.mono ?_; rintro e w' ⟨rfl, rfl⟩))
  exact fin hR ⟨rfl, M1.out.trans M2.out⟩

theorem bounds_any (n size : Int) (w : World) :
    Calls Try.prog 3 #[.int .i64 n, .int .i64 size] w fun e w' => e = .returned (.bool true) ∧ Mod No w w' := by
  rcases Int.lt_or_le 20 n with a1 | a1
  · rcases Int.lt_or_le 100 size with b1 | b1
    · exact boundsA n size w a1 b1
    · exact boundsB n size w a1 b1
  · exact boundsC n size w a1

/-- .. as the statement hands its arguments in. -/
theorem bounds_walk (n : Int) (_ : (Lit.int .i64 n).wf = true) (size : Int) (_ : (Lit.int .i64 size).wf = true) (w : World) :
    Calls Try.prog 3 #[.int .i64 n, .int .i64 size] w fun e w' => e = .returned (.bool true) ∧ Mod No w w' := bounds_any n size w

end Go.Proofs.Ytjmnpfbinjlegaa
