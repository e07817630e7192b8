/- ApeNames: the walk of changed and of the law. -/
import Derived.Test.YtgdchcaglkeghaaApeLaws
import Derived.Test.YtgdchcaglkeghaaApeAlive
import Derived.Laws.BitsAllLaws
namespace Go.Proofs.Ytgdchcaglkeghaa
open Go.RowKit
attribute [local go_sem ↓] Go.wp_at_zero Go.wp_at_succ

theorem u8_xor_one (x : UInt8) : bits .xor .u8 (x.toNat : Int) 1 = ((x ^^^ 1).toNat : Int) := by
  rw [UInt8.toNat_xor]
  exact u8_xor_nat x.toNat 1 x.toNat_lt (by decide)
theorem barg_from {w : World} {ad : Addr} {len cap : Nat} {l : List UInt8} (h : BArg w (some ad) len cap l) (p : Nat) (hp : p ≤ len) (hc : ¬ cap = p) : BArg w (some (ad.add p)) (len - p) (cap - p) (l.drop p) := by
  have := h.cut hp (Nat.le_refl len)
  rw [List.take_of_length_le (by rw [h.len_eq]; omega), if_neg hc] at this
  exact this
def chL (l : List UInt8) (c : Int) (h : Bool) (k : Nat) : List UInt8 := (awL l c h).set k ((awL l c h).getD k 0 ^^^ 1)
set_option maxHeartbeats 1000000 in
theorem changed_any (a : Option Addr) (len cap : Nat) (l : List UInt8) (c : Int) (h : Bool) (k n : Nat) (w : World) (ha : BArg w a len cap l) (he : apeE len c = 0) (hn : awN len c h = n) (hk : k < n) (_hn9 : n ≤ 1000) :
    Calls Try.prog 35 #[.agg #[.slice a len cap, .int .i64 c, .bool h], .int .i64 (k : Int), .int .u8 1] w fun e w' => ∃ A q, e = .returned (.slice A n q) ∧ BArg w' A n q (chL l c h k) ∧ Below w.heap.size w w' := by
  obtain ⟨w1, hw1, d1, d2, d3, hB, hz⟩ := box3 w (.slice a len cap) (.int .i64 c) (.bool h) 30
  have HW := Lib.hid hw1
  have HB := Lib.hid hB
  have C := Lib.hid (awrite_any a len cap l c h w1 (ha.below hB))
  rw [hn, he] at C
  obtain ⟨x0, hx0⟩ : ∃ x0, x0 = (awL l c h).getD k 0 := ⟨_, rfl⟩
  obtain ⟨z, hz0⟩ : ∃ z, z = x0 ^^^ 1 := ⟨_, rfl⟩
  have hzx : bits .xor .u8 (x0.toNat : Int) 1 = (z.toNat : Int) := by rw [hz0]; exact u8_xor_one _
  have hxa : (awL l c h).set k z = chL l c h k := by rw [hz0, hx0]; rfl
  have HX0 := Lib.hid hx0
  have HXA := Lib.hid hxa
  generalize awL l c h = L at *
  generalize chL l c h k = R at *
  clear hw1 hB ha he hn hz0 hxa hx0
  go_enter Try.func35, Try.ntmps35
  go_wp2_with fail
  rw [← HW.out]
  refine C.out.mono ?_
  rintro e w2 ⟨A, q, rfl, ho, hb⟩
  obtain ⟨g, rfl, hg1, hg2⟩ := ho.where_ (by omega)
  have hc := ho.cellAt (j := k) hk
  rw [← HX0.out] at hc
  have hf := ho.free k
  have hst := ho.stored k z
  rw [HXA.out] at hst
  have HST := Lib.hid hst.1.arg
  have HB2 := Lib.hid (HB.out.trans (hb.mono HB.out.size))
  have HB3 := Lib.hid (HB2.out.setCell (p := ⟨g, k, none⟩) (Nat.le_trans HB.out.size hg1) (.int .u8 (z.toNat : Int)))
  clear ho hb hst hz d1 d2 d3
  go_wp2_with fail
  go_ret
  exact ⟨_, _, rfl, HST.out, HB3.out⟩

def wantN (k : Nat) : Int := if k = 13 then 24 else if k < 8 then 6 else 12
theorem an32 : ∀ k, k < 32 → frB (chL [120, 121, 122] 5 true k) 0 (wantN k) = true ∧ bkB (chL [120, 121, 122] 5 true k) 0 12 = true ∧ bkB (chL [120, 121, 122] 5 true (35 + k)) 0 (wantN k) = true ∧ frB (chL [120, 121, 122] 5 true (35 + k)) 0 12 = true ∧
    (k < 12 ∨ 19 < k → bkB (chL [120, 121, 122] 5 false (3 + k)) 0 (wantN k) = true) := by decide +kernel
abbrev wT : List UInt8 := awL [120, 121, 122] 5 true
abbrev wU : List UInt8 := awL [120, 121, 122] 5 false
theorem as0 : frB (wT.take 8) 0 24 = true := by decide +kernel
theorem as1 : frB (wT.take 31) 0 24 = true := by decide +kernel
theorem as2 : frB (wT.take 32) 0 24 = true := by decide +kernel
theorem as3 : frB (wT.take 66) 0 24 = true := by decide +kernel
theorem as4 : bkB (wT.drop 1) 0 24 = true := by decide +kernel
theorem as5 : bkB (wU.drop 1) 0 24 = true := by decide +kernel
theorem as6 : bkB (wU.drop 3) 0 24 = true := by decide +kernel
theorem as7 : frB [] 0 6 = true := by decide +kernel
theorem as8 : frB (wT.take 7) 0 6 = true := by decide +kernel
theorem as9 : frB (wT.drop 1) 0 6 = true := by decide +kernel
theorem as10 : bkB [] 0 6 = true := by decide +kernel
theorem as11 : bkB (wU.drop 4) 0 6 = true := by decide +kernel
theorem as12 : bkB (wT.take 66) 0 6 = true := by decide +kernel
theorem as13 : frB wU 0 6 = true := by decide +kernel
theorem as14 : bkB wU 35 0 = true := by decide +kernel
theorem as15 : frB (awL (List.replicate 3000 0) 1000 true) 3064 0 = true ∧ bkB (awL (List.replicate 3000 0) 1000 true) 3064 0 = true := by
  have he : apeE 3000 1000 = 0 := by decide
  have e : awL (List.replicate 3000 (0 : UInt8)) 1000 true = tagL (List.replicate 3000 0) 1000 true := by
    unfold awL
    rw [List.length_replicate, if_pos he]
    rfl
  have hl : (tagL (List.replicate 3000 (0 : UInt8)) 1000 true).length = 3064 := by rw [tagL_length, List.length_replicate]; rfl
  have h1 := front_tag (List.replicate 3000 0) [] 1000 (by rw [List.length_replicate]; omega) (by omega)
  have h2 := back_tag [] (List.replicate 3000 0) 1000 true (by rw [List.length_replicate]; omega) (by omega)
  rw [List.append_nil, hl] at h1
  rw [List.nil_append, hl] at h2
  unfold frB bkB
  rw [e, h1, h2]
  exact ⟨by decide, by decide⟩
theorem mkBigA (n : Nat) (hn : n ≤ 281474976710656) (W : World) : (Instr.makeSlice 22 (.int .i64 (n : Int)) (.int .i64 (n : Int))).run Try.prog W = .ok (.slice (some ⟨W.heap.size, 0, none⟩) n n) (W.alloc (.cells (zb n) 5)) := run_make_bytes n hn W
theorem mk3001 (W : World) : (Instr.makeSlice 22 (.int .i64 3001) (.int .i64 3001)).run Try.prog W = .ok (.slice (some ⟨W.heap.size, 0, none⟩) 3001 3001) (W.alloc (.cells (zb 3001) 5)) := mkBigA 3001 (by omega) W
theorem mk3000 (W : World) : (Instr.makeSlice 22 (.int .i64 3000) (.int .i64 3000)).run Try.prog W = .ok (.slice (some ⟨W.heap.size, 0, none⟩) 3000 3000) (W.alloc (.cells (zb 3000) 5)) := mkBigA 3000 (by omega) W

/-- The two tags' boxes, and the greatest tag. -/
structure NamW (w : World) (A4 : Option Addr) (k4 : Nat) (a1 : Nat) (a2 : Nat) (p1 p2 : Nat) (W : World) : Prop where
  below : Below w.heap.size w W
  most : BArg W A4 3064 k4 (awL (List.replicate 3000 0) 1000 true)
  xs : BArg W (some ⟨a1, 0, none⟩) 3 3 [120, 121, 122]
  ys : BArg W (some ⟨a2, 0, none⟩) 3 3 [120, 121, 122]
  lt1 : p1 < W.heap.size
  lt2 : p2 < W.heap.size
  c0 : W.cell? ⟨p1, 0, none⟩ = some (.slice (some ⟨a1, 0, none⟩) 3 3)
  c1 : W.cell? ⟨p1, 1, none⟩ = some (.int .i64 5)
  c2 : W.cell? ⟨p1, 2, none⟩ = some (.bool true)
  d0 : W.cell? ⟨p2, 0, none⟩ = some (.slice (some ⟨a2, 0, none⟩) 3 3)
  d1 : W.cell? ⟨p2, 1, none⟩ = some (.int .i64 5)
  d2 : W.cell? ⟨p2, 2, none⟩ = some (.bool false)
theorem NamW.next {w W W' : World} {A4 : Option Addr} {k4 a1 a2 p1 p2 : Nat} (h : NamW w A4 k4 a1 a2 p1 p2 W) (hb : Below W.heap.size W W') : NamW w A4 k4 a1 a2 p1 p2 W' :=
  ⟨h.below.trans (hb.mono h.below.size), h.most.below hb, h.xs.below hb, h.ys.below hb, Nat.lt_of_lt_of_le h.lt1 hb.size, Nat.lt_of_lt_of_le h.lt2 hb.size,
   (hb.cell (p := ⟨p1, 0, none⟩) h.lt1).trans h.c0, (hb.cell (p := ⟨p1, 1, none⟩) h.lt1).trans h.c1, (hb.cell (p := ⟨p1, 2, none⟩) h.lt1).trans h.c2,
   (hb.cell (p := ⟨p2, 0, none⟩) h.lt2).trans h.d0, (hb.cell (p := ⟨p2, 1, none⟩) h.lt2).trans h.d1, (hb.cell (p := ⟨p2, 2, none⟩) h.lt2).trans h.d2⟩

theorem nam_start (w w6 : World) (hb : Below w.heap.size w w6) (A4 : Option Addr) (k4 : Nat) (hm : BArg w6 A4 3064 k4 (awL (List.replicate 3000 0) 1000 true)) :
    NamW w A4 k4 w6.heap.size (w6.heap.size + 1 + 1) (w6.heap.size + 1) (w6.heap.size + 1 + 1 + 1) ((((w6.alloc (.cells #[.int .u8 120, .int .u8 121, .int .u8 122] 5 (3, 4))).alloc (.cells #[.slice (some ⟨w6.heap.size, 0, none⟩) 3 3, .int .i64 5, .bool true] 30)).alloc (.cells #[.int .u8 120, .int .u8 121, .int .u8 122] 5 (3, 4))).alloc (.cells #[.slice (some ⟨w6.heap.size + 1 + 1, 0, none⟩) 3 3, .int .i64 5, .bool false] 30)) := by
  obtain ⟨v1, h1⟩ : ∃ v, v = w6.alloc (.cells #[.int .u8 120, .int .u8 121, .int .u8 122] 5 (3, 4)) := ⟨_, rfl⟩
  rw [← h1]
  obtain ⟨v2, h2⟩ : ∃ v, v = v1.alloc (.cells #[.slice (some ⟨w6.heap.size, 0, none⟩) 3 3, .int .i64 5, .bool true] 30) := ⟨_, rfl⟩
  rw [← h2]
  obtain ⟨v3, h3⟩ : ∃ v, v = v2.alloc (.cells #[.int .u8 120, .int .u8 121, .int .u8 122] 5 (3, 4)) := ⟨_, rfl⟩
  rw [← h3]
  obtain ⟨v4, h4⟩ : ∃ v, v = v3.alloc (.cells #[.slice (some ⟨w6.heap.size + 1 + 1, 0, none⟩) 3 3, .int .i64 5, .bool false] 30) := ⟨_, rfl⟩
  rw [← h4]
  have s1 : v1.heap.size = w6.heap.size + 1 := by rw [h1]; simp
  have s2 : v2.heap.size = w6.heap.size + 1 + 1 := by rw [h2]; simp [s1]
  have s3 : v3.heap.size = w6.heap.size + 1 + 1 + 1 := by rw [h3]; simp [s2]
  have s4 : v4.heap.size = w6.heap.size + 1 + 1 + 1 + 1 := by rw [h4]; simp [s3]
  have b1 : Below w6.heap.size w6 v1 := by rw [h1]; exact (Below.refl _ _).alloc (Nat.le_refl _) _
  have b2 : Below v1.heap.size v1 v2 := by rw [h2]; exact (Below.refl _ _).alloc (Nat.le_refl _) _
  have b3 : Below v2.heap.size v2 v3 := by rw [h3]; exact (Below.refl _ _).alloc (Nat.le_refl _) _
  have b4 : Below v3.heap.size v3 v4 := by rw [h4]; exact (Below.refl _ _).alloc (Nat.le_refl _) _
  have b24 := b3.trans (b4.mono b3.size)
  have b14 := b2.trans (b24.mono b2.size)
  have b04 := b1.trans (b14.mono b1.size)
  have x1 : BArg v1 (some ⟨w6.heap.size, 0, none⟩) 3 3 [120, 121, 122] := by rw [h1]; exact BArg.lit _ _ 3 rfl (by omega) _ _ _ rfl
  have x3 : BArg v3 (some ⟨v2.heap.size, 0, none⟩) 3 3 [120, 121, 122] := by rw [h3]; exact BArg.lit _ _ 3 rfl (by omega) _ _ _ rfl
  have e0 : v2.cell? ⟨v1.heap.size, 0, none⟩ = some (.slice (some ⟨w6.heap.size, 0, none⟩) 3 3) := by rw [h2, World.cell?_alloc_at _ _ _ _ rfl]; rfl
  have e1 : v2.cell? ⟨v1.heap.size, 1, none⟩ = some (.int .i64 5) := by rw [h2, World.cell?_alloc_at _ _ _ _ rfl]; rfl
  have e2 : v2.cell? ⟨v1.heap.size, 2, none⟩ = some (.bool true) := by rw [h2, World.cell?_alloc_at _ _ _ _ rfl]; rfl
  have f0 : v4.cell? ⟨v3.heap.size, 0, none⟩ = some (.slice (some ⟨w6.heap.size + 1 + 1, 0, none⟩) 3 3) := by rw [h4, World.cell?_alloc_at _ _ _ _ rfl]; rfl
  have f1 : v4.cell? ⟨v3.heap.size, 1, none⟩ = some (.int .i64 5) := by rw [h4, World.cell?_alloc_at _ _ _ _ rfl]; rfl
  have f2 : v4.cell? ⟨v3.heap.size, 2, none⟩ = some (.bool false) := by rw [h4, World.cell?_alloc_at _ _ _ _ rfl]; rfl
  rw [s1] at e0 e1 e2
  rw [s3] at f0 f1 f2
  rw [s2] at x3
  clear h1 h2 h3 h4
  exact ⟨hb.trans (b04.mono hb.size), hm.below b04, x1.below b14, x3.below b4, by omega, by omega,
    (b24.cell (p := ⟨w6.heap.size + 1, 0, none⟩) (by show w6.heap.size + 1 < _; omega)).trans e0, (b24.cell (p := ⟨w6.heap.size + 1, 1, none⟩) (by show w6.heap.size + 1 < _; omega)).trans e1, (b24.cell (p := ⟨w6.heap.size + 1, 2, none⟩) (by show w6.heap.size + 1 < _; omega)).trans e2, f0, f1, f2⟩
theorem changed_at (a : Option Addr) (len cap : Nat) (l : List UInt8) (c : Int) (h : Bool) (k n : Nat) (x : Int) (w : World) (ha : BArg w a len cap l) (he : apeE len c = 0) (hn : awN len c h = n) (hk : k < n) (hn9 : n ≤ 1000) (hx : x = (k : Int)) :
    Calls Try.prog 35 #[.agg #[.slice a len cap, .int .i64 c, .bool h], .int .i64 x, .int .u8 1] w fun e w' => ∃ A q, e = .returned (.slice A n q) ∧ BArg w' A n q (chL l c h k) ∧ Below w.heap.size w w' := by
  subst hx
  exact changed_any a len cap l c h k n w ha he hn hk hn9
set_option maxRecDepth 100000 in
set_option maxHeartbeats 8000000 in
theorem apenames_calls (w : World) :
    Calls Try.prog 8 #[] w fun e w' => e = .returned (.bool true) ∧ Below w.heap.size w w' := by
  have kc := fun (w : World) (C : Array Value) (n c : Nat) => Lib.run_convert_bytes_const (P := Try.prog) w 22 5 C n c Try.underlying22 Try.underlying5
  have kc2 : ∀ (W : World) (o1 o2 : Obj) (C : Array Value) (n c : Nat), (convert 22 22 (.slice (some ⟨W.heap.size + 1 + 1, 0, none⟩) n c)).run Try.prog (((W.alloc o1).alloc o2).alloc (.cells C 5)) = .ok (.slice (some ⟨W.heap.size + 1 + 1, 0, none⟩) n c) (((W.alloc o1).alloc o2).alloc (.cells C 5 (C.size, C.size + 1))) := fun W o1 o2 C n c => by
    have := kc ((W.alloc o1).alloc o2) C n c
    rwa [show ((W.alloc o1).alloc o2).heap.size = W.heap.size + 1 + 1 by simp] at this
  have hmk := mk3001
  have hmk2 := mk3000
  go_enter Try.func8, Try.ntmps8
  go_wp2_with fail
  refine (acheck_any _ 3001 3001 0 false _).mono ?_
  rintro e w1 ⟨rfl, hb⟩
  rw [show apeE 3001 0 = 8 by decide]
  have HB1 : Hid (Below w.heap.size w w1) := Lib.hid (((Below.refl _ w).alloc (Nat.le_refl _) _).trans (hb.mono (by simp)))
  clear hb
  go_wp2_with fail
  refine (acheck_any _ 0 0 (-1) false _).mono ?_
  rintro e w2 ⟨rfl, hb⟩
  rw [show apeE 0 (-1) = 8 by decide]
  have HB2 := Lib.hid (HB1.out.trans (hb.mono HB1.out.size))
  clear hb
  go_wp2_with fail
  refine (acheck_any _ 0 0 1001 false _).mono ?_
  rintro e w3 ⟨rfl, hb⟩
  rw [show apeE 0 1001 = 8 by decide]
  have HB3 := Lib.hid (HB2.out.trans (hb.mono HB2.out.size))
  clear hb
  go_wp2_with fail
  refine (acheck_any _ 3000 3000 1000 true _).mono ?_
  rintro e w4 ⟨rfl, hb⟩
  rw [show apeE 3000 1000 = 0 by decide]
  have HB4 : Hid (Below w.heap.size w w4) := Lib.hid ((HB3.out.alloc HB3.out.size _).trans (hb.mono (by have := HB3.out.size; simp; omega)))
  clear hb HB1 HB2 HB3
  go_wp2_with fail
  refine (awrite_any none 0 0 [] 1001 false _ (BArg.none_ _)).mono ?_
  rintro e w5 ⟨A5, k5, rfl, _, hb⟩
  rw [show awN 0 1001 false = 0 by decide, show apeE 0 1001 = 8 by decide]
  have HB5 := Lib.hid (HB4.out.trans (hb.mono HB4.out.size))
  clear hb HB4
  go_wp2_with fail
  refine (awrite_any _ 3000 3000 (List.replicate 3000 0) 1000 true _ (Owns.made w5 w5.heap.size 3000 (Nat.le_refl _) (by omega)).arg).mono ?_
  rintro e w6 ⟨A4, k4, rfl, ho, hb⟩
  rw [show awN 3000 1000 true = 3064 by decide] at ho ⊢
  rw [show apeE 3000 1000 = 0 by decide]
  have HB6 : Hid (Below w.heap.size w w6) := Lib.hid ((HB5.out.alloc HB5.out.size _).trans (hb.mono (by have := HB5.out.size; simp; omega)))
  have HM := Lib.hid ho.arg
  clear ho hb HB5
  go_wp2_with fail
  have HL0 := Lib.hid (nam_start w w6 HB6.out A4 k4 HM.out)
  clear HB6 HM
  go_loopw [8] (fun i wr => ∃ k : Nat, k ≤ 32 ∧ i = .int .i64 k ∧ Hid (NamW w A4 k4 w6.heap.size (w6.heap.size + 1 + 1) (w6.heap.size + 1) (w6.heap.size + 1 + 1 + 1) wr)) (fun i _ => 32 - (intOf i).toNat)
  case atStart => exact ⟨0, by omega, rfl, HL0⟩
  case round =>
    clear HL0
    obtain ⟨k, hk, rfl, HR0⟩ := hrel
    obtain ⟨gx, hgx⟩ : ∃ g, g = w6.heap.size := ⟨_, rfl⟩
    rw [← hgx] at HR0 ⊢
    clear hgx
    by_cases hlt : k < 32
    · have hg8 : ∀ q, q < 64 → IntKind.i64.wrap ((q : Nat) : Int) = (q : Int) := fun q hq => by rw [IntKind.wrap_i64]; omega
      clear hg8
      have hw35 : IntKind.i64.wrap (35 + (k : Int)) = 35 + (k : Int) := by rw [IntKind.wrap_i64]; omega
      have hw3 : IntKind.i64.wrap (3 + (k : Int)) = 3 + (k : Int) := by rw [IntKind.wrap_i64]; omega
      obtain ⟨f1, f2, f3, f4, f5⟩ := an32 k hlt
      have F1 := Lib.hid f1
      have F2 := Lib.hid f2
      have F3 := Lib.hid f3
      have F4 := Lib.hid f4
      have F5 := Lib.hid f5
      clear f1 f2 f3 f4 f5
      have WN : Hid (wantN k = if k = 13 then 24 else if k < 8 then 6 else 12) := Lib.hid rfl
      by_cases hc0 : k < 8
      · have hW : wantN k = 6 := by rw [WN.out]; split <;> (try split) <;> omega
        have F6 := Lib.hid (F5.out (by omega))
        rw [hW] at F1 F3 F6
        clear F5 WN hW
        have p1 : decide ((k : Int) < 8) = true := decide_eq_true (by omega)
        have p2 : ((k : Int) == 13) = false := beq_eq_false_iff_ne.2 (by omega)
        have p3 : decide ((k : Int) < 12) = true := decide_eq_true (by omega)
        have e0 := HR0.out.c0; have e1 := HR0.out.c1; have e2 := HR0.out.c2
        go_wp2_with fail
        refine (changed_at _ 3 3 [120, 121, 122] 5 true (k) 67 _ _ HR0.out.xs (by decide) (by decide) (by omega) (by omega) (by omega)).mono ?_
        rintro e w21 ⟨B, q, rfl, hr, hb⟩
        have HX := Lib.hid hr
        have HR1 := Lib.hid (HR0.out.next hb)
        clear hb hr e0 e1 e2 HR0
        go_wp2_with fail
        refine (lfront_any _ _ _ _ 0 (6) _ HX.out).mono ?_
        rintro e w22 ⟨rfl, hb⟩
        rw [F1.out]
        have HR2 := Lib.hid (HR1.out.next hb)
        clear hb HX HR1
        have e0 := HR2.out.c0; have e1 := HR2.out.c1; have e2 := HR2.out.c2
        go_wp2_with fail
        refine (changed_at _ 3 3 [120, 121, 122] 5 true (k) 67 _ _ HR2.out.xs (by decide) (by decide) (by omega) (by omega) (by omega)).mono ?_
        rintro e w23 ⟨B, q, rfl, hr, hb⟩
        have HX := Lib.hid hr
        have HR3 := Lib.hid (HR2.out.next hb)
        clear hb hr e0 e1 e2 HR2
        go_wp2_with fail
        refine (lback_any _ _ _ _ 0 (12) _ HX.out).mono ?_
        rintro e w24 ⟨rfl, hb⟩
        rw [F2.out]
        have HR4 := Lib.hid (HR3.out.next hb)
        clear hb HX HR3
        have e0 := HR4.out.c0; have e1 := HR4.out.c1; have e2 := HR4.out.c2
        go_wp2_with fail
        refine (changed_at _ 3 3 [120, 121, 122] 5 true (35 + k) 67 _ _ HR4.out.xs (by decide) (by decide) (by omega) (by omega) (by omega)).mono ?_
        rintro e w25 ⟨B, q, rfl, hr, hb⟩
        have HX := Lib.hid hr
        have HR5 := Lib.hid (HR4.out.next hb)
        clear hb hr e0 e1 e2 HR4
        go_wp2_with fail
        refine (lback_any _ _ _ _ 0 (6) _ HX.out).mono ?_
        rintro e w26 ⟨rfl, hb⟩
        rw [F3.out]
        have HR6 := Lib.hid (HR5.out.next hb)
        clear hb HX HR5
        have e0 := HR6.out.c0; have e1 := HR6.out.c1; have e2 := HR6.out.c2
        go_wp2_with fail
        refine (changed_at _ 3 3 [120, 121, 122] 5 true (35 + k) 67 _ _ HR6.out.xs (by decide) (by decide) (by omega) (by omega) (by omega)).mono ?_
        rintro e w27 ⟨B, q, rfl, hr, hb⟩
        have HX := Lib.hid hr
        have HR7 := Lib.hid (HR6.out.next hb)
        clear hb hr e0 e1 e2 HR6
        go_wp2_with fail
        refine (lfront_any _ _ _ _ 0 (12) _ HX.out).mono ?_
        rintro e w28 ⟨rfl, hb⟩
        rw [F4.out]
        have HR8 := Lib.hid (HR7.out.next hb)
        clear hb HX HR7
        have e0 := HR8.out.d0; have e1 := HR8.out.d1; have e2 := HR8.out.d2
        go_wp2_with fail
        refine (changed_at _ 3 3 [120, 121, 122] 5 false (3 + k) 35 _ _ HR8.out.ys (by decide) (by decide) (by omega) (by omega) (by omega)).mono ?_
        rintro e w29 ⟨B, q, rfl, hr, hb⟩
        have HX := Lib.hid hr
        have HR9 := Lib.hid (HR8.out.next hb)
        clear hb hr e0 e1 e2 HR8
        go_wp2_with fail
        refine (lback_any _ _ _ _ 0 (6) _ HX.out).mono ?_
        rintro e w30 ⟨rfl, hb⟩
        rw [F6.out]
        have HR10 := Lib.hid (HR9.out.next hb)
        clear hb HX HR9
        go_wp2_with fail
        go_roundw
        case rel => exact ⟨k + 1, by omega, by go_num, HR10⟩
        case measure => simp [intOf]; omega
      by_cases hc1 : k < 12
      · have hW : wantN k = 12 := by rw [WN.out]; split <;> (try split) <;> omega
        have F6 := Lib.hid (F5.out (by omega))
        rw [hW] at F1 F3 F6
        clear F5 WN hW
        have p1 : decide ((k : Int) < 8) = false := decide_eq_false (by omega)
        have p2 : ((k : Int) == 13) = false := beq_eq_false_iff_ne.2 (by omega)
        have p3 : decide ((k : Int) < 12) = true := decide_eq_true (by omega)
        have e0 := HR0.out.c0; have e1 := HR0.out.c1; have e2 := HR0.out.c2
        go_wp2_with fail
        refine (changed_at _ 3 3 [120, 121, 122] 5 true (k) 67 _ _ HR0.out.xs (by decide) (by decide) (by omega) (by omega) (by omega)).mono ?_
        rintro e w21 ⟨B, q, rfl, hr, hb⟩
        have HX := Lib.hid hr
        have HR1 := Lib.hid (HR0.out.next hb)
        clear hb hr e0 e1 e2 HR0
        go_wp2_with fail
        refine (lfront_any _ _ _ _ 0 (12) _ HX.out).mono ?_
        rintro e w22 ⟨rfl, hb⟩
        rw [F1.out]
        have HR2 := Lib.hid (HR1.out.next hb)
        clear hb HX HR1
        have e0 := HR2.out.c0; have e1 := HR2.out.c1; have e2 := HR2.out.c2
        go_wp2_with fail
        refine (changed_at _ 3 3 [120, 121, 122] 5 true (k) 67 _ _ HR2.out.xs (by decide) (by decide) (by omega) (by omega) (by omega)).mono ?_
        rintro e w23 ⟨B, q, rfl, hr, hb⟩
        have HX := Lib.hid hr
        have HR3 := Lib.hid (HR2.out.next hb)
        clear hb hr e0 e1 e2 HR2
        go_wp2_with fail
        refine (lback_any _ _ _ _ 0 (12) _ HX.out).mono ?_
        rintro e w24 ⟨rfl, hb⟩
        rw [F2.out]
        have HR4 := Lib.hid (HR3.out.next hb)
        clear hb HX HR3
        have e0 := HR4.out.c0; have e1 := HR4.out.c1; have e2 := HR4.out.c2
        go_wp2_with fail
        refine (changed_at _ 3 3 [120, 121, 122] 5 true (35 + k) 67 _ _ HR4.out.xs (by decide) (by decide) (by omega) (by omega) (by omega)).mono ?_
        rintro e w25 ⟨B, q, rfl, hr, hb⟩
        have HX := Lib.hid hr
        have HR5 := Lib.hid (HR4.out.next hb)
        clear hb hr e0 e1 e2 HR4
        go_wp2_with fail
        refine (lback_any _ _ _ _ 0 (12) _ HX.out).mono ?_
        rintro e w26 ⟨rfl, hb⟩
        rw [F3.out]
        have HR6 := Lib.hid (HR5.out.next hb)
        clear hb HX HR5
        have e0 := HR6.out.c0; have e1 := HR6.out.c1; have e2 := HR6.out.c2
        go_wp2_with fail
        refine (changed_at _ 3 3 [120, 121, 122] 5 true (35 + k) 67 _ _ HR6.out.xs (by decide) (by decide) (by omega) (by omega) (by omega)).mono ?_
        rintro e w27 ⟨B, q, rfl, hr, hb⟩
        have HX := Lib.hid hr
        have HR7 := Lib.hid (HR6.out.next hb)
        clear hb hr e0 e1 e2 HR6
        go_wp2_with fail
        refine (lfront_any _ _ _ _ 0 (12) _ HX.out).mono ?_
        rintro e w28 ⟨rfl, hb⟩
        rw [F4.out]
        have HR8 := Lib.hid (HR7.out.next hb)
        clear hb HX HR7
        have e0 := HR8.out.d0; have e1 := HR8.out.d1; have e2 := HR8.out.d2
        go_wp2_with fail
        refine (changed_at _ 3 3 [120, 121, 122] 5 false (3 + k) 35 _ _ HR8.out.ys (by decide) (by decide) (by omega) (by omega) (by omega)).mono ?_
        rintro e w29 ⟨B, q, rfl, hr, hb⟩
        have HX := Lib.hid hr
        have HR9 := Lib.hid (HR8.out.next hb)
        clear hb hr e0 e1 e2 HR8
        go_wp2_with fail
        refine (lback_any _ _ _ _ 0 (12) _ HX.out).mono ?_
        rintro e w30 ⟨rfl, hb⟩
        rw [F6.out]
        have HR10 := Lib.hid (HR9.out.next hb)
        clear hb HX HR9
        go_wp2_with fail
        go_roundw
        case rel => exact ⟨k + 1, by omega, by go_num, HR10⟩
        case measure => simp [intOf]; omega
      by_cases hc13 : k = 13
      · have hW : wantN k = 24 := by rw [WN.out]; split <;> (try split) <;> omega
        rw [hW] at F1 F3
        clear F5 WN hW
        have p1 : decide ((k : Int) < 8) = false := decide_eq_false (by omega)
        have p2 : ((k : Int) == 13) = true := beq_iff_eq.2 (by omega)
        have p3 : decide ((k : Int) < 12) = false := decide_eq_false (by omega)
        have p4 : decide ((19 : Int) < (k : Int)) = false := decide_eq_false (by omega)
        have e0 := HR0.out.c0; have e1 := HR0.out.c1; have e2 := HR0.out.c2
        go_wp2_with fail
        refine (changed_at _ 3 3 [120, 121, 122] 5 true (k) 67 _ _ HR0.out.xs (by decide) (by decide) (by omega) (by omega) (by omega)).mono ?_
        rintro e w21 ⟨B, q, rfl, hr, hb⟩
        have HX := Lib.hid hr
        have HR1 := Lib.hid (HR0.out.next hb)
        clear hb hr e0 e1 e2 HR0
        go_wp2_with fail
        refine (lfront_any _ _ _ _ 0 (24) _ HX.out).mono ?_
        rintro e w22 ⟨rfl, hb⟩
        rw [F1.out]
        have HR2 := Lib.hid (HR1.out.next hb)
        clear hb HX HR1
        have e0 := HR2.out.c0; have e1 := HR2.out.c1; have e2 := HR2.out.c2
        go_wp2_with fail
        refine (changed_at _ 3 3 [120, 121, 122] 5 true (k) 67 _ _ HR2.out.xs (by decide) (by decide) (by omega) (by omega) (by omega)).mono ?_
        rintro e w23 ⟨B, q, rfl, hr, hb⟩
        have HX := Lib.hid hr
        have HR3 := Lib.hid (HR2.out.next hb)
        clear hb hr e0 e1 e2 HR2
        go_wp2_with fail
        refine (lback_any _ _ _ _ 0 (12) _ HX.out).mono ?_
        rintro e w24 ⟨rfl, hb⟩
        rw [F2.out]
        have HR4 := Lib.hid (HR3.out.next hb)
        clear hb HX HR3
        have e0 := HR4.out.c0; have e1 := HR4.out.c1; have e2 := HR4.out.c2
        go_wp2_with fail
        refine (changed_at _ 3 3 [120, 121, 122] 5 true (35 + k) 67 _ _ HR4.out.xs (by decide) (by decide) (by omega) (by omega) (by omega)).mono ?_
        rintro e w25 ⟨B, q, rfl, hr, hb⟩
        have HX := Lib.hid hr
        have HR5 := Lib.hid (HR4.out.next hb)
        clear hb hr e0 e1 e2 HR4
        go_wp2_with fail
        refine (lback_any _ _ _ _ 0 (24) _ HX.out).mono ?_
        rintro e w26 ⟨rfl, hb⟩
        rw [F3.out]
        have HR6 := Lib.hid (HR5.out.next hb)
        clear hb HX HR5
        have e0 := HR6.out.c0; have e1 := HR6.out.c1; have e2 := HR6.out.c2
        go_wp2_with fail
        refine (changed_at _ 3 3 [120, 121, 122] 5 true (35 + k) 67 _ _ HR6.out.xs (by decide) (by decide) (by omega) (by omega) (by omega)).mono ?_
        rintro e w27 ⟨B, q, rfl, hr, hb⟩
        have HX := Lib.hid hr
        have HR7 := Lib.hid (HR6.out.next hb)
        clear hb hr e0 e1 e2 HR6
        go_wp2_with fail
        refine (lfront_any _ _ _ _ 0 (12) _ HX.out).mono ?_
        rintro e w28 ⟨rfl, hb⟩
        rw [F4.out]
        have HR8 := Lib.hid (HR7.out.next hb)
        clear hb HX HR7
        go_wp2_with fail
        go_roundw
        case rel => exact ⟨k + 1, by omega, by go_num, HR8⟩
        case measure => simp [intOf]; omega
      by_cases hc3 : k ≤ 19
      · have hW : wantN k = 12 := by rw [WN.out]; split <;> (try split) <;> omega
        rw [hW] at F1 F3
        clear F5 WN hW
        have p1 : decide ((k : Int) < 8) = false := decide_eq_false (by omega)
        have p2 : ((k : Int) == 13) = false := beq_eq_false_iff_ne.2 (by omega)
        have p3 : decide ((k : Int) < 12) = false := decide_eq_false (by omega)
        have p4 : decide ((19 : Int) < (k : Int)) = false := decide_eq_false (by omega)
        have e0 := HR0.out.c0; have e1 := HR0.out.c1; have e2 := HR0.out.c2
        go_wp2_with fail
        refine (changed_at _ 3 3 [120, 121, 122] 5 true (k) 67 _ _ HR0.out.xs (by decide) (by decide) (by omega) (by omega) (by omega)).mono ?_
        rintro e w21 ⟨B, q, rfl, hr, hb⟩
        have HX := Lib.hid hr
        have HR1 := Lib.hid (HR0.out.next hb)
        clear hb hr e0 e1 e2 HR0
        go_wp2_with fail
        refine (lfront_any _ _ _ _ 0 (12) _ HX.out).mono ?_
        rintro e w22 ⟨rfl, hb⟩
        rw [F1.out]
        have HR2 := Lib.hid (HR1.out.next hb)
        clear hb HX HR1
        have e0 := HR2.out.c0; have e1 := HR2.out.c1; have e2 := HR2.out.c2
        go_wp2_with fail
        refine (changed_at _ 3 3 [120, 121, 122] 5 true (k) 67 _ _ HR2.out.xs (by decide) (by decide) (by omega) (by omega) (by omega)).mono ?_
        rintro e w23 ⟨B, q, rfl, hr, hb⟩
        have HX := Lib.hid hr
        have HR3 := Lib.hid (HR2.out.next hb)
        clear hb hr e0 e1 e2 HR2
        go_wp2_with fail
        refine (lback_any _ _ _ _ 0 (12) _ HX.out).mono ?_
        rintro e w24 ⟨rfl, hb⟩
        rw [F2.out]
        have HR4 := Lib.hid (HR3.out.next hb)
        clear hb HX HR3
        have e0 := HR4.out.c0; have e1 := HR4.out.c1; have e2 := HR4.out.c2
        go_wp2_with fail
        refine (changed_at _ 3 3 [120, 121, 122] 5 true (35 + k) 67 _ _ HR4.out.xs (by decide) (by decide) (by omega) (by omega) (by omega)).mono ?_
        rintro e w25 ⟨B, q, rfl, hr, hb⟩
        have HX := Lib.hid hr
        have HR5 := Lib.hid (HR4.out.next hb)
        clear hb hr e0 e1 e2 HR4
        go_wp2_with fail
        refine (lback_any _ _ _ _ 0 (12) _ HX.out).mono ?_
        rintro e w26 ⟨rfl, hb⟩
        rw [F3.out]
        have HR6 := Lib.hid (HR5.out.next hb)
        clear hb HX HR5
        have e0 := HR6.out.c0; have e1 := HR6.out.c1; have e2 := HR6.out.c2
        go_wp2_with fail
        refine (changed_at _ 3 3 [120, 121, 122] 5 true (35 + k) 67 _ _ HR6.out.xs (by decide) (by decide) (by omega) (by omega) (by omega)).mono ?_
        rintro e w27 ⟨B, q, rfl, hr, hb⟩
        have HX := Lib.hid hr
        have HR7 := Lib.hid (HR6.out.next hb)
        clear hb hr e0 e1 e2 HR6
        go_wp2_with fail
        refine (lfront_any _ _ _ _ 0 (12) _ HX.out).mono ?_
        rintro e w28 ⟨rfl, hb⟩
        rw [F4.out]
        have HR8 := Lib.hid (HR7.out.next hb)
        clear hb HX HR7
        go_wp2_with fail
        go_roundw
        case rel => exact ⟨k + 1, by omega, by go_num, HR8⟩
        case measure => simp [intOf]; omega
      have hW : wantN k = 12 := by rw [WN.out]; split <;> (try split) <;> omega
      have F6 := Lib.hid (F5.out (by omega))
      rw [hW] at F1 F3 F6
      clear F5 WN hW
      have p1 : decide ((k : Int) < 8) = false := decide_eq_false (by omega)
      have p2 : ((k : Int) == 13) = false := beq_eq_false_iff_ne.2 (by omega)
      have p3 : decide ((k : Int) < 12) = false := decide_eq_false (by omega)
      have p4 : decide ((19 : Int) < (k : Int)) = true := decide_eq_true (by omega)
      have e0 := HR0.out.c0; have e1 := HR0.out.c1; have e2 := HR0.out.c2
      go_wp2_with fail
      refine (changed_at _ 3 3 [120, 121, 122] 5 true (k) 67 _ _ HR0.out.xs (by decide) (by decide) (by omega) (by omega) (by omega)).mono ?_
      rintro e w21 ⟨B, q, rfl, hr, hb⟩
      have HX := Lib.hid hr
      have HR1 := Lib.hid (HR0.out.next hb)
      clear hb hr e0 e1 e2 HR0
      go_wp2_with fail
      refine (lfront_any _ _ _ _ 0 (12) _ HX.out).mono ?_
      rintro e w22 ⟨rfl, hb⟩
      rw [F1.out]
      have HR2 := Lib.hid (HR1.out.next hb)
      clear hb HX HR1
      have e0 := HR2.out.c0; have e1 := HR2.out.c1; have e2 := HR2.out.c2
      go_wp2_with fail
      refine (changed_at _ 3 3 [120, 121, 122] 5 true (k) 67 _ _ HR2.out.xs (by decide) (by decide) (by omega) (by omega) (by omega)).mono ?_
      rintro e w23 ⟨B, q, rfl, hr, hb⟩
      have HX := Lib.hid hr
      have HR3 := Lib.hid (HR2.out.next hb)
      clear hb hr e0 e1 e2 HR2
      go_wp2_with fail
      refine (lback_any _ _ _ _ 0 (12) _ HX.out).mono ?_
      rintro e w24 ⟨rfl, hb⟩
      rw [F2.out]
      have HR4 := Lib.hid (HR3.out.next hb)
      clear hb HX HR3
      have e0 := HR4.out.c0; have e1 := HR4.out.c1; have e2 := HR4.out.c2
      go_wp2_with fail
      refine (changed_at _ 3 3 [120, 121, 122] 5 true (35 + k) 67 _ _ HR4.out.xs (by decide) (by decide) (by omega) (by omega) (by omega)).mono ?_
      rintro e w25 ⟨B, q, rfl, hr, hb⟩
      have HX := Lib.hid hr
      have HR5 := Lib.hid (HR4.out.next hb)
      clear hb hr e0 e1 e2 HR4
      go_wp2_with fail
      refine (lback_any _ _ _ _ 0 (12) _ HX.out).mono ?_
      rintro e w26 ⟨rfl, hb⟩
      rw [F3.out]
      have HR6 := Lib.hid (HR5.out.next hb)
      clear hb HX HR5
      have e0 := HR6.out.c0; have e1 := HR6.out.c1; have e2 := HR6.out.c2
      go_wp2_with fail
      refine (changed_at _ 3 3 [120, 121, 122] 5 true (35 + k) 67 _ _ HR6.out.xs (by decide) (by decide) (by omega) (by omega) (by omega)).mono ?_
      rintro e w27 ⟨B, q, rfl, hr, hb⟩
      have HX := Lib.hid hr
      have HR7 := Lib.hid (HR6.out.next hb)
      clear hb hr e0 e1 e2 HR6
      go_wp2_with fail
      refine (lfront_any _ _ _ _ 0 (12) _ HX.out).mono ?_
      rintro e w28 ⟨rfl, hb⟩
      rw [F4.out]
      have HR8 := Lib.hid (HR7.out.next hb)
      clear hb HX HR7
      have e0 := HR8.out.d0; have e1 := HR8.out.d1; have e2 := HR8.out.d2
      go_wp2_with fail
      refine (changed_at _ 3 3 [120, 121, 122] 5 false (3 + k) 35 _ _ HR8.out.ys (by decide) (by decide) (by omega) (by omega) (by omega)).mono ?_
      rintro e w29 ⟨B, q, rfl, hr, hb⟩
      have HX := Lib.hid hr
      have HR9 := Lib.hid (HR8.out.next hb)
      clear hb hr e0 e1 e2 HR8
      go_wp2_with fail
      refine (lback_any _ _ _ _ 0 (12) _ HX.out).mono ?_
      rintro e w30 ⟨rfl, hb⟩
      rw [F6.out]
      have HR10 := Lib.hid (HR9.out.next hb)
      clear hb HX HR9
      go_wp2_with fail
      go_roundw
      case rel => exact ⟨k + 1, by omega, by go_num, HR10⟩
      case measure => simp [intOf]; omega
    · obtain rfl : k = 32 := by omega
      clear hlt hk
      have e0 := HR0.out.c0; have e1 := HR0.out.c1; have e2 := HR0.out.c2
      go_wp2_with fail
      refine (awrite_any _ 3 3 [120, 121, 122] 5 true _ HR0.out.xs).mono ?_
      rintro e w11 ⟨AT, qT, rfl, ho, hb⟩
      rw [show awN 3 5 true = 67 by decide] at ho ⊢
      rw [show apeE 3 5 = 0 by decide]
      have HR1 := Lib.hid (HR0.out.next hb)
      have HT1 := Lib.hid ho.arg
      have hqT := ho.arg.le
      have hqT9 := ho.arg.small
      clear hb ho e0 e1 e2 HR0
      have e0 := HR1.out.d0; have e1 := HR1.out.d1; have e2 := HR1.out.d2
      go_wp2_with fail
      refine (awrite_any _ 3 3 [120, 121, 122] 5 false _ HR1.out.ys).mono ?_
      rintro e w12 ⟨AU, qU, rfl, ho, hb⟩
      rw [show awN 3 5 false = 35 by decide] at ho ⊢
      rw [show apeE 3 5 = 0 by decide]
      have HR2 := Lib.hid (HR1.out.next hb)
      have HT2 := Lib.hid (HT1.out.below hb)
      have HU2 := Lib.hid ho.arg
      have hqU := ho.arg.le
      have hqU9 := ho.arg.small
      obtain ⟨gT, rfl⟩ : ∃ g, AT = some g := by
        cases hA : AT with
        | none => exact absurd (HT2.out.nil hA) (by omega)
        | some g => exact ⟨g, rfl⟩
      obtain ⟨gU, rfl⟩ : ∃ g, AU = some g := by
        cases hA : AU with
        | none => exact absurd (HU2.out.nil hA) (by omega)
        | some g => exact ⟨g, rfl⟩
      clear hb ho e0 e1 e2 HR1 HT1
      have nT : ¬ qT = 1 := by omega
      have nU1 : ¬ qU = 1 := by omega
      have nU3 : ¬ qU = 3 := by omega
      have nU4 : ¬ qU = 4 := by omega
      have m7 : 7 ≤ qT := by omega
      have m8 : 8 ≤ qT := by omega
      have m31 : 31 ≤ qT := by omega
      have m32 : 32 ≤ qT := by omega
      have m66 : 66 ≤ qT := by omega
      go_wp2_with fail
      refine (lfront_any _ _ _ (wT.take 8) 0 24 _ (HT2.out.upto (k := 8) (by omega))).mono ?_
      rintro e w13 ⟨rfl, hb⟩
      rw [show frB (wT.take 8) 0 24 = true from as0]
      have HR3 := Lib.hid (HR2.out.next hb)
      have HT3 := Lib.hid (HT2.out.below hb)
      have HU3 := Lib.hid (HU2.out.below hb)
      clear hb HR2 HT2 HU2
      go_wp2_with fail
      refine (lfront_any _ _ _ (wT.take 31) 0 24 _ (HT3.out.upto (k := 31) (by omega))).mono ?_
      rintro e w14 ⟨rfl, hb⟩
      rw [show frB (wT.take 31) 0 24 = true from as1]
      have HR4 := Lib.hid (HR3.out.next hb)
      have HT4 := Lib.hid (HT3.out.below hb)
      have HU4 := Lib.hid (HU3.out.below hb)
      clear hb HR3 HT3 HU3
      go_wp2_with fail
      refine (lfront_any _ _ _ (wT.take 32) 0 24 _ (HT4.out.upto (k := 32) (by omega))).mono ?_
      rintro e w15 ⟨rfl, hb⟩
      rw [show frB (wT.take 32) 0 24 = true from as2]
      have HR5 := Lib.hid (HR4.out.next hb)
      have HT5 := Lib.hid (HT4.out.below hb)
      have HU5 := Lib.hid (HU4.out.below hb)
      clear hb HR4 HT4 HU4
      go_wp2_with fail
      refine (lfront_any _ _ _ (wT.take 66) 0 24 _ (HT5.out.upto (k := 66) (by omega))).mono ?_
      rintro e w16 ⟨rfl, hb⟩
      rw [show frB (wT.take 66) 0 24 = true from as3]
      have HR6 := Lib.hid (HR5.out.next hb)
      have HT6 := Lib.hid (HT5.out.below hb)
      have HU6 := Lib.hid (HU5.out.below hb)
      clear hb HR5 HT5 HU5
      go_wp2_with fail
      refine (lback_any _ _ _ (wT.drop 1) 0 24 _ (barg_from HT6.out 1 (by omega) (by omega))).mono ?_
      rintro e w17 ⟨rfl, hb⟩
      rw [show bkB (wT.drop 1) 0 24 = true from as4]
      have HR7 := Lib.hid (HR6.out.next hb)
      have HT7 := Lib.hid (HT6.out.below hb)
      have HU7 := Lib.hid (HU6.out.below hb)
      clear hb HR6 HT6 HU6
      go_wp2_with fail
      refine (lback_any _ _ _ (wU.drop 1) 0 24 _ (barg_from HU7.out 1 (by omega) (by omega))).mono ?_
      rintro e w18 ⟨rfl, hb⟩
      rw [show bkB (wU.drop 1) 0 24 = true from as5]
      have HR8 := Lib.hid (HR7.out.next hb)
      have HT8 := Lib.hid (HT7.out.below hb)
      have HU8 := Lib.hid (HU7.out.below hb)
      clear hb HR7 HT7 HU7
      go_wp2_with fail
      refine (lback_any _ _ _ (wU.drop 3) 0 24 _ (barg_from HU8.out 3 (by omega) (by omega))).mono ?_
      rintro e w19 ⟨rfl, hb⟩
      rw [show bkB (wU.drop 3) 0 24 = true from as6]
      have HR9 := Lib.hid (HR8.out.next hb)
      have HT9 := Lib.hid (HT8.out.below hb)
      have HU9 := Lib.hid (HU8.out.below hb)
      clear hb HR8 HT8 HU8
      go_wp2_with fail
      refine (lfront_any none 0 0 [] 0 6 _ (BArg.none_ _)).mono ?_
      rintro e w20 ⟨rfl, hb⟩
      rw [show frB [] 0 6 = true from as7]
      have HR10 := Lib.hid (HR9.out.next hb)
      have HT10 := Lib.hid (HT9.out.below hb)
      have HU10 := Lib.hid (HU9.out.below hb)
      clear hb HR9 HT9 HU9
      go_wp2_with fail
      refine (lfront_any _ _ _ (wT.take 7) 0 6 _ (HT10.out.upto (k := 7) (by omega))).mono ?_
      rintro e w21 ⟨rfl, hb⟩
      rw [show frB (wT.take 7) 0 6 = true from as8]
      have HR11 := Lib.hid (HR10.out.next hb)
      have HT11 := Lib.hid (HT10.out.below hb)
      have HU11 := Lib.hid (HU10.out.below hb)
      clear hb HR10 HT10 HU10
      go_wp2_with fail
      refine (lfront_any _ _ _ (wT.drop 1) 0 6 _ (barg_from HT11.out 1 (by omega) (by omega))).mono ?_
      rintro e w22 ⟨rfl, hb⟩
      rw [show frB (wT.drop 1) 0 6 = true from as9]
      have HR12 := Lib.hid (HR11.out.next hb)
      have HT12 := Lib.hid (HT11.out.below hb)
      have HU12 := Lib.hid (HU11.out.below hb)
      clear hb HR11 HT11 HU11
      go_wp2_with fail
      refine (lback_any none 0 0 [] 0 6 _ (BArg.none_ _)).mono ?_
      rintro e w23 ⟨rfl, hb⟩
      rw [show bkB [] 0 6 = true from as10]
      have HR13 := Lib.hid (HR12.out.next hb)
      have HT13 := Lib.hid (HT12.out.below hb)
      have HU13 := Lib.hid (HU12.out.below hb)
      clear hb HR12 HT12 HU12
      go_wp2_with fail
      refine (lback_any _ _ _ (wU.drop 4) 0 6 _ (barg_from HU13.out 4 (by omega) (by omega))).mono ?_
      rintro e w24 ⟨rfl, hb⟩
      rw [show bkB (wU.drop 4) 0 6 = true from as11]
      have HR14 := Lib.hid (HR13.out.next hb)
      have HT14 := Lib.hid (HT13.out.below hb)
      have HU14 := Lib.hid (HU13.out.below hb)
      clear hb HR13 HT13 HU13
      go_wp2_with fail
      refine (lback_any _ _ _ (wT.take 66) 0 6 _ (HT14.out.upto (k := 66) (by omega))).mono ?_
      rintro e w25 ⟨rfl, hb⟩
      rw [show bkB (wT.take 66) 0 6 = true from as12]
      have HR15 := Lib.hid (HR14.out.next hb)
      have HT15 := Lib.hid (HT14.out.below hb)
      have HU15 := Lib.hid (HU14.out.below hb)
      clear hb HR14 HT14 HU14
      go_wp2_with fail
      refine (alive29_any _).mono ?_
      rintro e w26 ⟨rfl, hb⟩
      have HR16 := Lib.hid (HR15.out.next hb)
      have HT16 := Lib.hid (HT15.out.below hb)
      have HU16 := Lib.hid (HU15.out.below hb)
      clear hb HR15 HT15 HU15
      go_wp2_with fail
      refine (lfront_any _ _ _ (awL (List.replicate 3000 0) 1000 true) 3064 0 _ HR16.out.most).mono ?_
      rintro e w27 ⟨rfl, hb⟩
      rw [as15.1]
      have HR17 := Lib.hid (HR16.out.next hb)
      have HT17 := Lib.hid (HT16.out.below hb)
      have HU17 := Lib.hid (HU16.out.below hb)
      clear hb HR16 HT16 HU16
      go_wp2_with fail
      refine (lback_any _ _ _ (awL (List.replicate 3000 0) 1000 true) 3064 0 _ HR17.out.most).mono ?_
      rintro e w28 ⟨rfl, hb⟩
      rw [as15.2]
      have HR18 := Lib.hid (HR17.out.next hb)
      have HT18 := Lib.hid (HT17.out.below hb)
      have HU18 := Lib.hid (HU17.out.below hb)
      clear hb HR17 HT17 HU17
      go_wp2_with fail
      refine (lfront_any _ _ _ wU 0 6 _ HU18.out).mono ?_
      rintro e w29 ⟨rfl, hb⟩
      rw [as13]
      have HR19 := Lib.hid (HR18.out.next hb)
      have HT19 := Lib.hid (HT18.out.below hb)
      have HU19 := Lib.hid (HU18.out.below hb)
      clear hb HR18 HT18 HU18
      go_wp2_with fail
      refine (lback_any _ _ _ wU 35 0 _ HU19.out).mono ?_
      rintro e w30 ⟨rfl, hb⟩
      rw [as14]
      have HR20 := Lib.hid (HR19.out.next hb)
      have HT20 := Lib.hid (HT19.out.below hb)
      have HU20 := Lib.hid (HU19.out.below hb)
      clear hb HR19 HT19 HU19
      go_wp2_with fail
      go_ret
      exact ⟨rfl, HR20.out.below⟩
end Go.Proofs.Ytgdchcaglkeghaa
