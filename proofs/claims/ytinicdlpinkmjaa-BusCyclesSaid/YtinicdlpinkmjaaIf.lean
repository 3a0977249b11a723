import Derived.Laws.BitsAllLaws
import Derived.Test.YtinicdlpinkmjaaIb
namespace Go.Proofs.Ytinicdlpinkmjaa.P
open Go.RowKit Go.Proofs.Yw Go.Proofs.Yl Go.Proofs.Ym
theorem xor_lt16 {a b : Nat} (ha : a < 65536) (hb : b < 65536) : a ^^^ b < 65536 := Nat.xor_lt_two_pow (n := 16) ha hb
theorem bits_xor_nat (k : IntKind) (j : Nat) (hj : j ≤ k.bits) (hk : ∀ n : Int, 0 ≤ n → n < 2 ^ j → k.wrap n = n) (a b : Nat) (ha : a < 2 ^ j) (hb : b < 2 ^ j) :
  bits .xor k a b = ((a ^^^ b : Nat) : Int) ∧ bits .and k a b = ((a &&& b : Nat) : Int) := by
 have hp : 2 ^ j ≤ 2 ^ k.bits := Nat.pow_le_pow_right (by decide) hj
 have ha' : a % 2 ^ k.bits = a := Nat.mod_eq_of_lt (Nat.lt_of_lt_of_le ha hp)
 have hb' : b % 2 ^ k.bits = b := Nat.mod_eq_of_lt (Nat.lt_of_lt_of_le hb hp)
 have cast : ∀ n : Nat, n < 2 ^ j → ((n : Nat) : Int) < 2 ^ j := fun n h => by exact_mod_cast h
 constructor
 ·simp only [bits, BitVec.ofInt_natCast, BitVec.toNat_xor, BitVec.toNat_ofNat, ha', hb']
  exact hk _ (Int.natCast_nonneg _) (cast _ (Nat.xor_lt_two_pow ha hb))
 ·simp only [bits, BitVec.ofInt_natCast, BitVec.toNat_and, BitVec.toNat_ofNat, ha', hb']
  exact hk _ (Int.natCast_nonneg _) (cast _ (Nat.and_lt_two_pow _ hb))
theorem i64_xor_nat (a b : Nat) (ha : a < 4294967296) (hb : b < 4294967296) : bits .xor .i64 (a : Int) (b : Int) = ((a ^^^ b : Nat) : Int) :=
 (bits_xor_nat .i64 32 (by decide) (fun n h0 h1 => by rw [IntKind.wrap_i64]; omega) a b ha hb).1
theorem i64_and_nat (a b : Nat) (ha : a < 4294967296) (hb : b < 4294967296) : bits .and .i64 (a : Int) (b : Int) = ((a &&& b : Nat) : Int) :=
 (bits_xor_nat .i64 32 (by decide) (fun n h0 h1 => by rw [IntKind.wrap_i64]; omega) a b ha hb).2
theorem crcBit_lt {x : Nat} (h : x < 65536) : crcBit x < 65536 := by
 unfold crcBit
 split
 ·exact xor_lt16 (by omega) (by omega)
 ·omega
theorem crcIt_lt : ∀ (k : Nat) {x : Nat}, x < 65536 → crcIt k x < 65536
 | 0, x, h => h
 | k + 1, x, h => crcIt_lt k (crcBit_lt h)
def tabN (n : Nat) : List Int := (List.range 256).map fun i => if i < n then (crcIt 8 i : Int) else 0
theorem tabN_len (n : Nat) : (tabN n).length = 256 := by simp [tabN]
theorem tabN_set (n : Nat) (h : n < 256) : (tabN n).set n (crcIt 8 n : Int) = tabN (n + 1) := by
 apply List.ext_getElem
 ·simp [tabN]
 ·intro i h1 h2
  rw [List.getElem_set]
  simp only [tabN, List.getElem_map, List.getElem_range]
  by_cases e : n = i
  ·subst e; rw [if_pos rfl, if_pos (by omega)]
  ·rw [if_neg e]
   by_cases c : i < n
   ·rw [if_pos c, if_pos (by omega)]
   ·rw [if_neg c, if_neg (by omega)]
theorem tabN_zero : tabN 0 = List.replicate 256 0 := by
 apply List.ext_getElem
 ·rw [tabN_len, List.length_replicate]
 ·intro i h1 h2; simp only [tabN, List.getElem_map, List.getElem_range, List.getElem_replicate]; rw [if_neg (by omega)]
theorem tabN_get (i : Nat) (h : i < 256) : (tabN 256).getD i 0 = (crcIt 8 i : Int) := by
 simp [tabN, List.getD_eq_getElem?_getD, List.getElem?_eq_getElem, h]
theorem iml_set (l : List Int) (i : Nat) (v : Int) : (iml l).setIfInBounds i (.int .i64 v) = iml (l.set i v) := by
 simp only [iml, List.setIfInBounds_toArray, List.map_set]
theorem iml_size (l : List Int) : (iml l).size = l.length := by simp [iml]
theorem iml_one (l : List Int) : (iml l).all (·.oneCell') = true := by simp [iml, Value.oneCell']
theorem tab_info (n : Nat) : (Try.prog.info? 101).map (·.size) = some (iml (tabN n)).size := by
 rw [iml_size, tabN_len]; kernel_rfl
theorem tab_zero : (Try.prog.info? 101).map (fun i => (i.zero, i.size)) = some (some (.agg (iml (tabN 0))), 256) := by
 rw [tabN_zero]; kernel_rfl
section
variable {ops : Array Oper} {rest : List Oper} {o : Oper} {a : Act} {W : World} {Q : Exit → Act → World → Prop}
theorem tab_alloc (ho : o.op = .alloc 101) : (execOp a.eval o).run Try.prog W = .ok (.value (.pointer (some ⟨W.heap.size, 0, none⟩))) (W.alloc (.cells (iml (tabN 0)) 101 (0, 0))) := by
 have hz := (zero_of_info (P := Try.prog) tab_zero).1 W
 unfold execOp
 simp only [ho]
 generalize iml (tabN 0) = z at hz ⊢
 simp [Instr.alloc, newVar, newRow, hz, go_sem, Value.cells]
theorem tab_load (hgd : o.guard = none) {x : Operand} (ho : o.op = .load 101 x) {g n : Nat} (hx : a.eval x = .pointer (some ⟨g, 0, none⟩)) (hW : W.heap[g]? = some (.cells (iml (tabN n)) 101 (0, 0)))
  (h : wpList Try.prog ops Q rest (a.put o.dst (.agg (iml (tabN n)))) W) : wpList Try.prog ops Q (o :: rest) a W :=
 wpList_load_row hgd 101 x ho g hx 101 _ (0, 0) _ hW Try.underlying101 rfl (tab_info n) h
theorem tab_store (hgd : o.guard = none) {p : Tmp} {y : Operand} (ho : o.op = .store 101 (.tmp p) y) (hN : o.dst = none) {g n n' : Nat} (hx : a.eval (.tmp p) = .pointer (some ⟨g, 0, none⟩)) (hy : a.eval y = .agg (iml (tabN n'))) (hW : W.heap[g]? = some (.cells (iml (tabN n)) 101 (0, 0)))
  (h : ∀ w', w'.heap[g]? = some (.cells (iml (tabN n')) 101 (0, 0)) → (∀ B w0, Below B w0 W → B ≤ g → Below B w0 w') → wpList Try.prog ops Q rest a w') : wpList Try.prog ops Q (o :: rest) a W := by
 have hr := run_storeVar_row (P := Try.prog) W g 101 101 (iml (tabN n)) (iml (tabN n')) hW (tab_info n') (by rw [iml_size, iml_size, tabN_len, tabN_len]) (iml_one _)
 have hrun : (execOp a.eval o).run Try.prog W = .ok .skip (W.setRow g (iml (tabN n'))) := by
  unfold execOp
  simp only [ho, hx, hy, Instr.storeAt, Instr.sureAddr, Sem.run_bind, Sem.run_pure, Result.andThen_ok, hr]
 refine wpList_plain hgd fun K hK => ?_
 unfold Oper.wp
 rw [hrun]
 show K (a.put o.dst undef) _
 rw [hN]
 exact hK _ _ (h _ (setRow_heap W g _ _ 101 _ hW) (fun B w0 hb hB => below_setRow hb hB _))
end
set_option maxHeartbeats 2000000 in
theorem bus_table.calls (w : World) : Calls Try.prog 49 #[] w fun e w' => e = .returned (.agg (iml (tabN 256))) ∧ Below w.heap.size w w' := by
 have HB := Aside0.mk (Below.refl w.heap.size w)
 go_enter Try.func49, Try.ntmps49
 go_wp2_with (first
  | ((with_reducible refine gate_dst (N := 0) rfl ?_); refine box_event ?hg (N := 0) ?hd (cs := iml (tabN 0)) (t := 101) ?hr ?_; (case hd => rfl); (case hg => rfl); (case hr => exact tab_alloc rfl); intro g0 hg0 w1 K1 B1; have G0 := Aside0.mk (show w.heap.size ≤ g0 by rw [hg0]; exact HB.out.size); have HB1 := Aside0.mk (below_step HB.out B1); have K0 := Aside0.mk K1; clear K1 B1 hg0 HB; have HB := HB1; clear HB1)
  | ((with_reducible refine gate_dst (N := 1) rfl ?_); refine box_event ?hg (N := 1) ?hd (cs := iml (tabN 0)) (t := 101) ?hr ?_; (case hd => rfl); (case hg => rfl); (case hr => exact tab_alloc rfl); intro g1 hg1 w2 K2 B2; have N1 := Aside0.mk (show g0 < g1 by rw [hg1]; exact blk_lt K0.out); have HB2 := Aside0.mk (below_step HB.out B2); have K02 := Aside0.mk (blk_below K0.out B2); have KT := Aside0.mk K2; clear K2 B2 hg1 HB K0; have HB := HB2; have K0 := K02; clear HB2 K02))
 go_loopg [4] 256 (fun gg v4 wr => ∃ n : Nat, n ≤ 256 ∧ 256 - n ≤ gg ∧ v4 = .int .i64 n ∧ Aside0 (Below w.heap.size w wr) ∧ Aside0 (wr.heap[g0]? = some (.cells (iml (tabN 0)) 101 (0, 0))) ∧ Aside0 (wr.heap[g1]? = some (.cells (iml (tabN n)) 101 (0, 0))))
 case atStart => exact ⟨0, by omega, by omega, rfl, HB, K0, KT⟩
 case round =>
  clear HB K0 KT
  obtain ⟨n, hn, hg, rfl, HB, K0, KT⟩ := hrel
  by_cases c : n < 256
  rotate_left
  ·have c' : decide ((n : Int) < 256) = false := decide_eq_false (by omega)
   obtain rfl : n = 256 := by omega
   go_wp2_with (first
    | ((with_reducible refine gate_dst (N := 23) rfl ?_); refine tab_load rfl rfl (by rfl) KT.out ?_)
    | ((with_reducible refine gate_store (t := 101) (p := 0) rfl ?_); refine tab_store (p := 0) (n' := 256) rfl rfl rfl (by rfl) (by rfl) K0.out ?_; intro w4 K4 hb4; have HB4 := Aside0.mk (hb4 _ _ HB.out G0.out); have K04 := Aside0.mk K4; clear K4 hb4))
   refine bodyPost_ret (results_cell_row rfl _ _ g0 101 (iml (tabN 256)) (0, 0) _ rfl K04.out Try.underlying101 rfl (tab_info 256)) rfl ?_
   exact ⟨rfl, HB4.out⟩
  have c' : decide ((n : Int) < 256) = true := decide_eq_true (by omega)
  go_wp2_with fail
  go_loopg [3, 8] 8 (fun g2 v3 v8 w2 => ∃ (j : Nat) (x : Int), j ≤ 8 ∧ 8 - j ≤ g2 ∧ 0 ≤ x ∧ x < 65536 ∧ v8 = .int .i64 j ∧ v3 = .int .i64 x ∧ wr = w2 ∧ Aside0 (crcIt (8 - j) x.toNat = crcIt 8 n))
  case atStart => exact ⟨0, n, by omega, by omega, by omega, by omega, rfl, rfl, rfl, ⟨by simp⟩⟩
  case round =>
   obtain ⟨j, x, hj, hg2, hx0, hx1, rfl, rfl, rfl, HX⟩ := hrel
   by_cases c8 : j < 8
   rotate_left
   ·have c8' : decide ((j : Int) < 8) = false := decide_eq_false (by omega)
    have hn0 : (0 ≤ (n : Int)) = True := eq_true (by omega)
    have hn1 : ((n : Int) < 256) = True := eq_true (by omega)
    have hx : (x : Int) = (crcIt 8 n : Int) := by
     have h := HX.out
     obtain rfl : j = 8 := by omega
     rw [Nat.sub_self] at h
     change x.toNat = crcIt 8 n at h
     omega
    have hcell : wr.cell? ⟨g1, n, none⟩ = some (.int .i64 ((tabN n).getD n 0)) := by
     rw [blk_cell KT.out n]; exact iml_get _ _ (by rw [tabN_len]; exact c)
    have hfr := blk_frozen KT.out n
    have KN := Aside0.mk (blk_put KT.out n (.int .i64 x) (by rw [iml_set, hx, tabN_set n c]))
    have K0N := Aside0.mk (blk_far (p := ⟨g1, n, none⟩) K0.out (by have := N1.out; show g0 ≠ g1; omega) (.int .i64 x))
    have HBN := Aside0.mk (below_set (g := g1) (j := n) HB.out (by have := G0.out; have := N1.out; omega) : Below w.heap.size w (wr.setCell ⟨g1, n, none⟩ (.int .i64 x)))
    clear hx
    go_wp2_with fail
    go_roundg (256 - (n + 1))
    case measure => omega
    case rel => exact ⟨n + 1, by omega, by omega, by go_num, HBN, K0N, KN⟩
   have c8' : decide ((j : Int) < 8) = true := decide_eq_true (by omega)
   have e8 : 8 - j = (8 - (j + 1)) + 1 := by omega
   have hH := HX.out
   rw [e8, crcIt] at hH
   have HH := Aside0.mk hH
   clear hH e8 HX
   by_cases c2 : x % 2 = 1
   ·have c2' : (x % 2 == 1) = true := beq_iff_eq.mpr c2
    have hb : bits .xor .i64 (x / 2) 40961 = ((crcBit x.toNat : Nat) : Int) := by
     have := i64_xor_nat (x.toNat / 2) 40961 (by omega) (by omega)
     rw [crcBit, if_pos (by omega)]
     have e : (x / 2 : Int) = ((x.toNat / 2 : Nat) : Int) := by omega
     rw [e]
     exact this
    have hlt := crcBit_lt (x := x.toNat) (by omega)
    have BB := Aside0.mk (And.intro hb hlt)
    clear hb hlt c2
    go_wp2_with fail
    go_roundg (8 - (j + 1))
    case measure => omega
    case rel => exact ⟨j + 1, _, by omega, by omega, by rw [BB.out.1]; omega, by rw [BB.out.1]; have := BB.out.2; omega, by go_num, rfl, rfl, ⟨by rw [BB.out.1, Int.toNat_natCast]; exact HH.out⟩⟩
   ·have c2' : (x % 2 == 1) = false := beq_eq_false_iff_ne.mpr c2
    have hb : (x / 2 : Int) = ((crcBit x.toNat : Nat) : Int) := by
     rw [crcBit, if_neg (by omega)]
     omega
    have BB := Aside0.mk hb
    clear hb
    go_wp2_with fail
    go_roundg (8 - (j + 1))
    case measure => omega
    case rel => exact ⟨j + 1, x / 2, by omega, by omega, by omega, by omega, by go_num, rfl, rfl, ⟨by rw [BB.out, Int.toNat_natCast]; exact HH.out⟩⟩
end Go.Proofs.Ytinicdlpinkmjaa.P
