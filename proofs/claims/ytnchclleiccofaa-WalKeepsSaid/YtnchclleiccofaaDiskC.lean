/-
  Layer 3, the disk: Write. No statement is proved here; no condition.
-/
import Derived.Test.YtnchclleiccofaaDiskB
namespace Go.Proofs.Ytnchclleiccofaa
open Go.RowKit Go.Maps

/-- A sector is written. -/
def Dk.put (d : Dk) (i : Nat) (l : List UInt8) : Dk := { d with dirty := fun k => if k = i then some l else d.dirty k }
/-- Power for one more write or flush. -/
def Dk.power (d : Dk) : Dk := { d with cut := if 0 < d.cut then d.cut - 1 else d.cut, dead := if d.cut = 0 then true else d.dead }

/-- What Write answers, and what the disk is behind it. -/
def Dk.writeE (d : Dk) (i : Int) (n : Nat) : Int := if atE d.dead i d.n ≠ 0 then atE d.dead i d.n else if n ≠ d.sz then 31 else if d.cut = 0 then 32 else 0
def Dk.write (d : Dk) (i : Int) (l : List UInt8) : Dk := if atE d.dead i d.n ≠ 0 ∨ l.length ≠ d.sz then d else if d.cut = 0 then d.power else d.power.put i.toNat l

/-- The blocks that a disk's calls may turn. -/
def Own2 (b mb : Nat) : Nat → Prop := fun k => k = b ∨ k = mb

theorem DkAt.turned {X : Nat → Prop} {w w' : World} {b sb mb : Nat} {d : Dk} {cut : Int} {dead : Bool} (h : DkAt w X b sb mb d) (hm : Mod (· = b) w w') (h1 : -1 ≤ cut) (h2 : cut ≤ 9223372036854775807)
    (ho : ∀ sc, w.heap[b]? = some (.cells #[.slice (some ⟨sb, 0, none⟩) d.n sc, .map (some mb), .int .i64 d.cut, .bool d.dead] 31 (0, 0)) →
      w'.heap[b]? = some (.cells #[.slice (some ⟨sb, 0, none⟩) d.n sc, .map (some mb), .int .i64 cut, .bool dead] 31 (0, 0))) :
    DkAt w' X b sb mb { d with cut := cut, dead := dead } := by
  obtain ⟨hn1, hn2, hn3⟩ := h.mb_ne
  obtain ⟨sc, hobj, r⟩ := h.obj
  have hb : Beside w X (· = b) := fun k hk => .inr fun cur fz e => by subst hk; rw [hobj] at e; cases e
  obtain ⟨cur, hc⟩ := h.sure
  obtain ⟨D, hD⟩ := h.dirty
  exact ⟨⟨sc, ho sc hobj, r⟩, ⟨cur, hc.keep hm (fun e => hn1 e.symm) hb⟩, ⟨D, hD.keep hm (fun e => hn2 e.symm) hb⟩, h.lenS, h.lenD, h.n1, h.n2, h.s1, h.s2, h1, h2⟩

theorem lit_int_ne {i j : Nat} (h : j ≠ i) : Lit.int .i64 (j : Int) ≠ .int .i64 (i : Int) := fun e => by
  injection e with _ e
  omega

theorem isKey_int (i : Int) : WideAt.IsKeyLit (.int .i64 i) := by
  simp [WideAt.IsKeyLit]

/-- The map, behind a write. -/
theorem DirtyAt.put {X : Nat → Prop} {w w' : World} {mb n sz : Nat} {dirty : Nat → Option (List UInt8)} {D : DataW Value} {i : Nat} {v : Value} {l : List UInt8} (h : DirtyAt w X mb n sz dirty D) (hi : i < n)
    (hm : Mp w' 3 mb (D.put (.int .i64 (i : Int)) (.held v))) (hmod : Mod (· = mb) w w') (hb : Beside w X (· = mb)) (hv : Sl w X 5 v sz (bv l)) :
    DirtyAt w' X mb n sz (fun k => if k = i then some l else dirty k) (D.put (.int .i64 (i : Int)) (.held v)) := by
  have hD : IsMap D := (h.mp.tidy key_int).isMap
  refine ⟨hm, fun kl hk => ?_, fun k hk hd => ?_, fun k l' hk hd => ?_⟩
  · by_cases e : kl = .int .i64 (i : Int)
    · exact ⟨i, hi, e⟩
    · rw [has_put_other e] at hk
      exact h.keys kl hk
  · by_cases e : k = i
    · simp [e] at hd
    · simp only [if_neg e] at hd
      rw [has_put_other (lit_int_ne e)]
      exact h.gone k hk hd
  · by_cases e : k = i
    · subst e
      simp only [if_true] at hd
      cases hd
      exact ⟨has_put_same hD (isKey_int _) _, v, fun zd => atKey_put_same hD (isKey_int _) _ zd, hv.beside hmod hb⟩
    · simp only [if_neg e] at hd
      obtain ⟨a, v', e', r⟩ := h.here k l' hk hd
      refine ⟨by rw [has_put_other (lit_int_ne e)]; exact a, v', fun zd => ?_, r.beside hmod hb⟩
      rw [atKey_put_other (lit_int_ne e)]
      exact e' zd

theorem Dk.write_err {d : Dk} {i : Int} {l : List UInt8} (h : atE d.dead i d.n ≠ 0) : d.write i l = d ∧ d.writeE i l.length = atE d.dead i d.n := by
  simp [Dk.write, Dk.writeE, h]
theorem Dk.write_len {d : Dk} {i : Int} {l : List UInt8} (h : atE d.dead i d.n = 0) (hl : l.length ≠ d.sz) : d.write i l = d ∧ d.writeE i l.length = 31 := by
  simp [Dk.write, Dk.writeE, h, hl]
theorem Dk.write_dead {d : Dk} {i : Int} {l : List UInt8} (h : atE d.dead i d.n = 0) (hl : l.length = d.sz) (hc : d.cut = 0) : d.write i l = d.power ∧ d.writeE i l.length = 32 := by
  simp [Dk.write, Dk.writeE, h, hl, hc]
theorem Dk.write_ok {d : Dk} {i : Int} {l : List UInt8} (h : atE d.dead i d.n = 0) (hl : l.length = d.sz) (hc : d.cut ≠ 0) : d.write i l = d.power.put i.toNat l ∧ d.writeE i l.length = 0 := by
  simp [Dk.write, Dk.writeE, h, hl, hc]

theorem atE_ok {dead : Bool} {i : Int} {n : Nat} (hE : atE dead i n = 0) : 0 ≤ i ∧ i < n ∧ dead = false := by
  unfold atE at hE
  split at hE
  · omega
  · split at hE
    · omega
    · rename_i h1 h2
      simp at h1
      exact ⟨by omega, by omega, h1⟩

set_option maxRecDepth 100000 in
set_option maxHeartbeats 800000 in
theorem write_any (X Y : Nat → Prop) (b sb mb : Nat) (d : Dk) (i : Int) (v : Value) (l : List UInt8) (w : World) (h : DkAt w X b sb mb d) (hv : Sl w Y 5 v l.length (bv l)) (hlen : l.length ≤ 140737488355328)
    (hX : ∀ k, X k → k < w.heap.size) :
    Calls Try.prog 16 #[.pointer (some ⟨b, 0, none⟩), .int .i64 i, v] w fun e w' => e = .returned (.int .i64 (d.writeE i l.length)) ∧ DkAt w' X b sb mb (d.write i l) ∧ Mod (Own2 b mb) w w' := by
  obtain ⟨hn1, hn2, hn3⟩ := h.mb_ne
  obtain ⟨sc, ho, hsc1, hsc2⟩ := h.obj
  obtain ⟨cur, hc⟩ := h.sure
  refine calls_hide fun R hR => ?_
  have HA := Lib.hid (at_any b _ _ _ _ _ _ i w ho)
  by_cases hE : atE d.dead i d.n = 0
  · obtain ⟨hi1, hi2, hdead⟩ := atE_ok hE
    obtain ⟨k, rfl⟩ := Int.eq_ofNat_of_zero_le hi1
    have hn0 : 0 < d.n := by have := h.n1; omega
    obtain ⟨v0, hv0, hs0⟩ := hc.cell 0 hn0
    obtain ⟨a0, c0, rfl⟩ : ∃ a c, v0 = .slice a d.sz c := by
      rcases hs0 with ⟨rfl, hz, _⟩ | ⟨blk, o, c, _, _, rfl, _⟩
      · have := h.s1; omega
      · exact ⟨_, _, rfl⟩
    have HS := Lib.hid (size_any ⟨b, 0, none⟩ sb d.n sc a0 d.sz c0 w hn0 (cell_of (i := 0) ho rfl) (cell_ofA hc.heap hv0))
    have HP := Lib.hid (powered_any b _ _ d.cut d.dead w h.c1 h.c2 ho)
    rw [hE] at HA
    by_cases hl : l.length = d.sz
    · have hsz1 : 64 ≤ d.sz := h.s1
      have hsz2 : d.sz ≤ 4096 := h.s2
      obtain ⟨a1, c1, rfl⟩ : ∃ a c, v = .slice a d.sz c := by
        rcases hv with ⟨rfl, hz, _⟩ | ⟨blk, o, c, _, _, rfl, _⟩
        · omega
        · exact ⟨_, _, by rw [hl]⟩
      by_cases hcut : d.cut = 0
      · obtain ⟨q1, q2⟩ := Dk.write_dead hE hl hcut
        rw [q1, q2] at hR
        rw [if_pos hcut] at HP
        have HD := Lib.hid h
        have HO := Lib.hid ho
        clear q1 q2 hE ho hc hn1 hn2 hn3 hsc1 hsc2 hdead hv0 hs0 hv hX hi1 hi2 h
        have hl2 := Lib.hid hl
        have hc2 := Lib.hid hcut
        clear hl hcut
        go_enter Try.func16, Try.ntmps16
        go_wp2_with (first | (go_at_call 38; refine HA.out.mono ?_; rintro e w' ⟨rfl, rfl⟩) | (go_at_call 15; refine HS.out.mono ?_; rintro e w' ⟨rfl, rfl⟩) | (go_at_call 39; refine HP.out.mono ?_; rintro e w1 ⟨rfl, hb1, hm1, hz1⟩; have HB := Lib.hid hb1; have HM := Lib.hid hm1; clear hb1 hm1 hz1))
        refine fin hR ⟨rfl, ?_, HM.out.weaken fun _ _ e => .inl e⟩
        exact HD.out.turned HM.out (by have := HD.out.c1; have := hc2.out; split <;> omega) (by have := HD.out.c2; split <;> omega) (fun sc' ho' => by
          have ho2 := HO.out
          rw [ho'] at ho2
          cases ho2
          exact HB.out)
      · obtain ⟨q1, q2⟩ := Dk.write_ok hE hl hcut
        rw [q1, q2] at hR
        rw [if_neg hcut] at HP
        obtain ⟨D, hD⟩ := h.dirty
        have hDsz := hD.size
        have hn2' : d.n ≤ 4096 := h.n2
        have hkey := Lib.hid (keyOf_nat k (by omega))
        have HD := Lib.hid h
        have HDD := Lib.hid hD
        have HV := Lib.hid hv
        have HX := Lib.hid hX
        have hk : k < d.n := by omega
        have hn2x := Lib.hid hn2
        have hsz3 : Maps.size D < maxLen := by unfold maxLen; omega
        have hlen' := Lib.hid hlen
        have HO := Lib.hid ho
        clear q1 q2 hE ho hc hn1 hn2 hn3 hsc1 hsc2 hdead hv0 hs0 hv hX hi1 hi2 h hD hDsz hlen
        have hl2 := Lib.hid hl
        have hc2 := Lib.hid hcut
        clear hl hcut
        go_enter Try.func16, Try.ntmps16
        go_wp2_with (first | (go_at_call 38; refine HA.out.mono ?_; rintro e w' ⟨rfl, rfl⟩) | (go_at_call 15; refine HS.out.mono ?_; rintro e w' ⟨rfl, rfl⟩) | (go_at_call 39; refine HP.out.mono ?_; rintro e w1 ⟨rfl, hb1, hm1, hz1⟩; have HB := Lib.hid hb1; have HM := Lib.hid hm1; have k1 := cell_of (i := 1) hb1 rfl; have HZ := Lib.hid hz1; clear hb1 hm1 hz1))
        have hDm : DkAt w1 X b sb mb d.power := HD.out.turned HM.out (by have := HD.out.c1; have := hc2.out; split <;> omega) (by have := HD.out.c2; split <;> omega) (fun sc' ho' => by
          have ho2 := HO.out
          rw [ho'] at ho2
          cases ho2
          exact HB.out)
        have hbb : Beside w X (· = b) := fun k hk => .inr fun cur fz e => by
          have ho2 := HO.out
          subst hk; rw [ho2] at e; cases e
        have hne2 : mb ≠ b := fun e => hn2x.out e.symm
        have hvs : Sl w1.drew Y 5 (.slice a1 d.sz c1) d.sz (bv l) := by
          have h1 := HV.out
          rw [hl2.out] at h1
          exact h1.keep HM.out.drew (fun k cur fz hk _ e => by have ho2 := HO.out; subst hk; rw [ho2] at e; cases e)
        have HCl := Lib.hid (clone_bytes Y (.slice a1 d.sz c1) (bv l) w1.drew (by rw [bv_length, hl2.out]; exact hvs) (bv_one _) (by rw [bv_length]; exact hlen'.out))
        have HDD1 := Lib.hid (HDD.out.keep HM.out.drew hne2 hbb)
        have HD1 := Lib.hid hDm
        have HXm : ∀ k, X k → k < w1.drew.heap.size := fun k hk => by have := HX.out k hk; have := HZ.out; simp; omega
        have HX1 := Lib.hid HXm
        have hk0 : (0 : Int) ≤ (k : Int) := Int.natCast_nonneg _
        clear hDm hbb hne2 hvs HXm
        go_region_held3 (fun w' => w'.cell? ⟨b, 1, none⟩ = some (.map (some mb))) (first | assumption) ((first | (go_at_call 40; refine HCl.out.mono ?_; rintro e w2 ⟨v', rfl, hown, hnil, hm⟩; have HO2 := Lib.hid hown; have HM2 := Lib.hid hm; have k2 := Mod.cell hm (show World.cell? w1.drew _ = _ from k1) (fun f => f); have HMp0 := HDD1.out.mp; have HMp1 := Mp.keep HMp0 hm (fun f => f); obtain ⟨w3, hst, hp3, hm3, hz3⟩ := Mp.store HMp1 key_int Try.underlying27 hsz3 (val := v') hkey.out; have HP3 := Lib.hid hp3; have HM3 := Lib.hid hm3; have k3 := Mod.cell hm3 k2 (fun e => hn2x.out e); clear HMp0 HMp1 hp3 hm3 hz3 hown hnil hm)))
        go_wp2
        have hD1 : DkAt w1.drew X b sb mb d.power := HD1.out.stay (Mod.refl No _).drew
        have hD2 : DkAt w2 X b sb mb d.power := hD1.stay HM2.out
        obtain ⟨hn1, hn2, hn3⟩ := hD2.mb_ne
        have hvo : Sl w2 X 5 v' d.sz (bv l) := by
          have h1 := HO2.out
          rw [bv_length, hl2.out] at h1
          exact Sl.of_own h1 fun q hq hx => by have := HX1.out q hx; omega
        have hbm : Beside w2 X (· = mb) := fun q hq => .inr fun cur fz e => by
          obtain ⟨D', hD'⟩ := hD2.dirty
          obtain ⟨es, clock, hh⟩ := hD'.mp.heap
          subst hq; rw [hh] at e; cases e
        have hDD2 : DirtyAt w2 X mb d.n d.sz d.dirty D := HDD1.out.keep HM2.out (fun f => f) (beside_no _ _)
        have hDD3 := hDD2.put hk HP3.out HM3.out hbm hvo
        refine fin hR ⟨rfl, ?_, ?_⟩
        · obtain ⟨sc3, ho3, r3⟩ := hD2.obj
          obtain ⟨cur3, hc3⟩ := hD2.sure
          refine ⟨⟨sc3, HM3.out.keep ho3 hn2, r3⟩, ⟨cur3, hc3.keep HM3.out hn3 hbm⟩, ⟨_, hDD3⟩, hD2.lenS, fun q l' hq hd => ?_, hD2.n1, hD2.n2, hD2.s1, hD2.s2, hD2.c1, hD2.c2⟩
          by_cases e : q = k
          · simp [Dk.put, e] at hd
            subst hd
            exact hl2.out
          · simp only [Dk.put, Int.toNat_natCast, if_neg e] at hd
            exact hD2.lenD q l' hq hd
        · exact ((HM.out.weaken (T := Own2 b mb) fun _ _ e => .inl e).drew.trans (HM2.out.weaken fun _ _ f => f.elim)).trans (HM3.out.weaken fun _ _ e => .inr e)
    · obtain ⟨q1, q2⟩ := Dk.write_len hE hl
      rw [q1, q2] at hR
      obtain ⟨a1, c1, rfl⟩ : ∃ a c, v = .slice a l.length c := by
        rcases hv with ⟨rfl, hz, _⟩ | ⟨blk, o, c, _, _, rfl, _⟩
        · rw [hz]; exact ⟨_, _, rfl⟩
        · exact ⟨_, _, rfl⟩
      have hl1 : ((l.length : Int) != (d.sz : Int)) = true := by simp; omega
      have HD := Lib.hid h
      clear q1 q2 hE ho hc hn1 hn2 hn3 hsc1 hsc2 hdead hv0 hs0 hv hX hi1 hi2 h HP
      have hl2 := Lib.hid hl
      clear hl
      go_enter Try.func16, Try.ntmps16
      go_wp2_with (first | (go_at_call 38; refine HA.out.mono ?_; rintro e w' ⟨rfl, rfl⟩) | (go_at_call 15; refine HS.out.mono ?_; rintro e w' ⟨rfl, rfl⟩))
      exact fin hR ⟨rfl, HD.out, Mod.refl _ _⟩
  · obtain ⟨q1, q2⟩ := Dk.write_err (l := l) hE
    rw [q1, q2] at hR
    clear q1 q2 hc ho
    generalize atE d.dead i d.n = E at *
    have h1 : (E != 0) = true := by simpa using hE
    have HE := Lib.hid hE
    have HD := Lib.hid h
    clear hE h hn1 hn2 hn3 hX hv
    go_enter Try.func16, Try.ntmps16
    go_wp2_with (go_at_call 38; refine HA.out.mono ?_; rintro e w' ⟨rfl, rfl⟩)
    exact fin hR ⟨rfl, HD.out, Mod.refl _ _⟩

end Go.Proofs.Ytnchclleiccofaa
