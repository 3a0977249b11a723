import Derived.Test.YtinicdlpinkmjaaIf
namespace Go.Proofs.Ytinicdlpinkmjaa.P
open Go.RowKit Go.Proofs.Yw Go.Proofs.Yl Go.Proofs.Ym
theorem crcStep_lt {s : Nat} (b : UInt8) (h : s < 65536) : crcStep s b < 65536 := by
 unfold crcStep
 exact xor_lt16 (by omega) (crcIt_lt 8 (by omega))
set_option maxHeartbeats 2000000 in
theorem bus_Sum.calls (a0 : ByteArray) (r : Int) (w : World) (h : bus_Sum.f a0 = some r) : Calls Try.prog 29 #[.string a0] w fun e w' => e = .returned (.int .i64 r) ∧ Below w.heap.size w w' := by
 unfold bus_Sum.f at h
 by_cases hsz : a0.size ≤ 9223372036854775807
 rotate_left
 ·rw [if_neg hsz] at h; cases h
 rw [if_pos hsz] at h
 have HR := Aside0.mk h
 clear h
 have HB := Aside0.mk (Below.refl w.heap.size w)
 go_enter Try.func29, Try.ntmps29
 go_wp2_with (first
  | (go_at_call 49; refine (bus_table.calls w).mono ?_; rintro e w1 ⟨rfl, hb⟩; have HB1 := Aside0.mk (below_step HB.out hb); clear hb HB; have HB := HB1; clear HB1)
  | ((with_reducible refine gate_dst (N := 3) rfl ?_); refine box_event ?hg (N := 3) ?hd (cs := iml (tabN 0)) (t := 101) ?hr ?_; (case hd => rfl); (case hg => rfl); (case hr => exact tab_alloc rfl); intro g1 hg1 w2 K2 B2; have G1 := Aside0.mk (show w.heap.size ≤ g1 by rw [hg1]; exact HB.out.size); have HB2 := Aside0.mk (below_step HB.out B2); have KT := Aside0.mk K2; clear K2 B2 hg1 HB; have HB := HB2; clear HB2)
  | ((with_reducible refine gate_store (t := 101) (p := 3) rfl ?_); refine tab_store (p := 3) (n' := 256) rfl rfl rfl (by rfl) (by rfl) KT.out ?_; intro w4 K4 hb4; have HB4 := Aside0.mk (hb4 _ _ HB.out G1.out); have KT4 := Aside0.mk K4; clear K4 hb4 HB KT; have HB := HB4; have KT := KT4; clear HB4 KT4))
 go_loopg [4, 9] a0.size (fun gg v4 v9 wr => ∃ (i : Nat) (s : Int), i ≤ a0.size ∧ a0.size - i ≤ gg ∧ 0 ≤ s ∧ s < 65536 ∧ v9 = .int .i64 i ∧ v4 = .int .i64 s ∧ Aside0 (s = ((a0.data.toList.take i).foldl crcStep 65535 : Nat)) ∧ Aside0 (Below w.heap.size w wr) ∧ Aside0 (wr.heap[g1]? = some (.cells (iml (tabN 256)) 101 (0, 0))))
 case atStart => exact ⟨0, 65535, by omega, by omega, by omega, by omega, rfl, rfl, ⟨rfl⟩, HB, KT⟩
 case round =>
  clear HB KT
  obtain ⟨i, s, hi, hg, hs0, hs1, rfl, rfl, HS, HB, KT⟩ := hrel
  by_cases c : i < a0.size
  rotate_left
  ·have c' : decide ((i : Int) < (a0.size : Int)) = false := decide_eq_false (by omega)
   have c2 : decide (i < a0.size) = false := decide_eq_false c
   go_wp2_with fail
   have h := HR.out
   have hS := HS.out
   unfold sumN at h
   rw [List.take_of_length_le (by simp only [Array.length_toList]; show a0.size ≤ i; omega)] at hS
   rw [← hS] at h
   obtain rfl := Option.some.inj h
   go_ret
   exact ⟨rfl, HB.out⟩
  have c' : decide ((i : Int) < (a0.size : Int)) = true := decide_eq_true (by omega)
  have c2 : decide (i < a0.size) = true := decide_eq_true c
  obtain ⟨b, hb⟩ : ∃ b : UInt8, b = a0[i] := ⟨_, rfl⟩
  have hb8 : b.toNat < 256 := b.toNat_lt
  have hnext : ((a0.data.toList.take (i + 1)).foldl crcStep 65535 : Nat) = crcStep s.toNat b := by
   have hS := HS.out
   rw [List.take_succ_eq_append_getElem (by simpa using c), List.foldl_append]
   have e : ((a0.data.toList.take i).foldl crcStep 65535 : Nat) = s.toNat := by omega
   rw [e, hb]
   rfl
  have x1 : bits .xor .i64 s (b.toNat : Int) = ((s.toNat ^^^ b.toNat : Nat) : Int) := by
   have := i64_xor_nat s.toNat b.toNat (by omega) (by omega)
   rwa [Int.toNat_of_nonneg hs0] at this
  have hxl : s.toNat ^^^ b.toNat < 65536 := xor_lt16 (by omega) (by omega)
  obtain ⟨y, hy⟩ : ∃ y : Nat, y = s.toNat ^^^ b.toNat := ⟨_, rfl⟩
  rw [← hy] at x1 hxl
  have x2 : bits .and .i64 (y : Int) 255 = ((y % 256 : Nat) : Int) := by
   have := i64_and_nat y 255 (by omega) (by omega)
   rw [show y &&& 255 = y % 256 from Nat.and_two_pow_sub_one_eq_mod y 8] at this
   exact this
  obtain ⟨z, hz⟩ : ∃ z : Nat, z = y % 256 := ⟨_, rfl⟩
  rw [← hz] at x2
  have hz8 : z < 256 := by omega
  have hn0 : (0 ≤ (z : Int)) = True := eq_true (by omega)
  have hn1 : ((z : Int) < 256) = True := eq_true (by omega)
  have hcell : wr.cell? ⟨g1, z, none⟩ = some (.int .i64 ((crcIt 8 z : Nat) : Int)) := by
   rw [blk_cell KT.out z, iml_get _ _ (by rw [tabN_len]; exact hz8), tabN_get z hz8]
  have hcl := crcIt_lt 8 (x := z) (by omega)
  obtain ⟨v, hv⟩ : ∃ v : Nat, v = crcIt 8 z := ⟨_, rfl⟩
  rw [← hv] at hcell hcl
  have x3 : bits .xor .i64 (s / 256) (v : Int) = ((s.toNat / 256 ^^^ v : Nat) : Int) := by
   have := i64_xor_nat (s.toNat / 256) v (by omega) (by omega)
   rwa [show ((s.toNat / 256 : Nat) : Int) = s / 256 by omega] at this
  have hl3 : s.toNat / 256 ^^^ v < 65536 := xor_lt16 (by omega) (by omega)
  have hN : Aside0 ((a0.data.toList.take (i + 1)).foldl crcStep 65535 = s.toNat / 256 ^^^ v ∧ s.toNat / 256 ^^^ v < 65536) := ⟨by rw [hnext]; unfold crcStep; rw [hv, hz, hy], hl3⟩
  clear hnext hl3 hv hz hy HS hxl hcl
  have HBb := Aside0.mk hb
  have p1 : (0 ≤ (i : Int)) = True := eq_true (by omega)
  have p2 : ((i : Int) < (a0.size : Int)) = True := eq_true (by omega)
  have hidx : ∀ h : i < a0.size, a0[i]'h = b := fun _ => HBb.out.symm
  clear hb
  generalize s.toNat / 256 ^^^ v = q at x3 hN
  go_wp2_with fail
  go_roundg (a0.size - (i + 1))
  case measure => omega
  case rel => exact ⟨i + 1, q, by omega, by omega, by omega, by have := hN.out.2; omega, by go_num, rfl, ⟨by rw [hN.out.1]⟩, HB, KT⟩
end Go.Proofs.Ytinicdlpinkmjaa.P
