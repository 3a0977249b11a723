import Derived.Test.YtinicdlpinkmjaaF48
import Derived.Test.YtinicdlpinkmjaaIl
import Derived.Test.YtinicdlpinkmjaaPx0
namespace Go.Proofs.Ytinicdlpinkmjaa.P
open Go.RowKit Go.Proofs.YtinicdlpinkmjaaW.PrintWords Go.Proofs.YtinicdlpinkmjaaW.PrintLast Go.Proofs.YtinicdlpinkmjaaW.PrintMore
attribute [local go_sem] max2_int min2_int max_two min_two max_three min_three max_four min_four
set_option linter.unusedVariables false
set_option linter.unusedSimpArgs false
def by8 (s : ByteArray) (i : Nat) : Int := ((s.data.toList.getD i 0).toNat : Int)
def be32 (s : ByteArray) (i : Nat) : Int := if by8 s i * 16777216 + by8 s (i+1) * 65536 + by8 s (i+2) * 256 + by8 s (i+3) < 2147483648 then by8 s i * 16777216 + by8 s (i+1) * 65536 + by8 s (i+2) * 256 + by8 s (i+3) else by8 s i * 16777216 + by8 s (i+1) * 65536 + by8 s (i+2) * 256 + by8 s (i+3) - 4294967296
def valsB (s : ByteArray) : Nat → Nat → List Int
  | 0, _ => []
  | n + 1, i => be32 s i :: valsB s n (i + 4)
def readB (k : Nat) (a0 : ByteArray) : Option (Int × Int × List Int × Int) :=
  if 1 ≤ by8 a0 0 ∧ by8 a0 0 ≤ 247 ∧ 1 ≤ by8 a0 1 ∧ by8 a0 1 ≤ 2 ∧ by8 a0 2 ≤ 16 ∧ (a0.size : Int) = 5 + 4 * by8 a0 2 then
    (bus_frame.f k (by8 a0 0) (by8 a0 1) (valsB a0 (by8 a0 2).toNat 3)).bind fun f => if (f.toList == a0.toList) = true then some (by8 a0 0, by8 a0 1, valsB a0 (by8 a0 2).toNat 3, 0) else some (0, 0, [], 40)
  else some (0, 0, [], 40)
def bus_Read.f (k : Nat) (a0 : ByteArray) : Option (Int × Int × List Int × Int) := if 5 ≤ a0.size ∧ a0.size ≤ 69 then readB k a0 else some (0, 0, [], 40)
theorem bus_Read.mono : ∀ a0 k, LeO (bus_Read.f k a0) (bus_Read.f (k + 1) a0) := by
  intro a0 k
  unfold bus_Read.f readB
  refine LeO.ite (LeO.ite (LeO.bind (bus_frame.mono _ _ _ _) (fun _ => LeO.refl _)) (LeO.refl _)) (LeO.refl _)
theorem by8_range (s : ByteArray) (i : Nat) : 0 ≤ by8 s i ∧ by8 s i < 256 := by
  unfold by8
  have := (s.data.toList.getD i 0).toNat_lt
  omega
set_option maxHeartbeats 8000000 in
set_option maxRecDepth 100000 in
theorem bus_Read.calls (k : Nat) (a0 : ByteArray) (r1 : Int) (r2 : Int) (r3 : List Int) (r4 : Int) (w : World) (h : bus_Read.f k a0 = some (r1, r2, r3, r4)) : Calls Try.prog 26 #[.string a0] w fun e w' => ∃ v2_ : Value, e = .returned (.tuple #[.int .i64 r1, .int .i64 r2, v2_, .int .i64 r4]) ∧ Kd.R (Kd.int .i64) 3 w' w.heap.size (fun _ => True) v2_ r3 ∧ Below w.heap.size w w' := by
  unfold bus_Read.f at h
  have HB := Aside0.mk (Below.refl w.heap.size w)
  by_cases z1 : 5 ≤ a0.size
  rotate_left
  · rw [if_neg (fun c => z1 c.1)] at h
    have HR := Aside0.mk h
    clear h
    have d1 : decide ((a0.size : Int) < 5) = true := decide_eq_true (by omega)
    have d2 : decide (a0.size < 5) = true := decide_eq_true (by omega)
    go_enter Try.func26, Try.ntmps26
    go_wp2_with fail
    ((try simp only [Exit.inBlock, Exit.then]); refine bodyPost_ret (results_list (rs := [.tmp 2, .tmp 3, .tmp 4, .tmp 5]) rfl (by simp) (.tmp (.tmp (.tmp (.tmp .nil))))) rfl ?_)
    cases HR.out
    exact ⟨_, rfl, Kd.R_nil _ _ _ _ _, HB.out⟩
  by_cases z2 : a0.size ≤ 69
  rotate_left
  · rw [if_neg (fun c => z2 c.2)] at h
    have HR := Aside0.mk h
    clear h
    have d1 : decide ((a0.size : Int) < 5) = false := decide_eq_false (by omega)
    have d2 : decide (a0.size < 5) = false := decide_eq_false (by omega)
    have d3 : decide ((69 : Int) < a0.size) = true := decide_eq_true (by omega)
    have d4 : decide (69 < a0.size) = true := decide_eq_true (by omega)
    go_enter Try.func26, Try.ntmps26
    go_wp2_with fail
    ((try simp only [Exit.inBlock, Exit.then]); refine bodyPost_ret (results_list (rs := [.tmp 2, .tmp 3, .tmp 4, .tmp 5]) rfl (by simp) (.tmp (.tmp (.tmp (.tmp .nil))))) rfl ?_)
    cases HR.out
    exact ⟨_, rfl, Kd.R_nil _ _ _ _ _, HB.out⟩
  rw [if_pos ⟨z1, z2⟩] at h
  unfold readB at h
  have HH := Aside0.mk h
  clear h
  have d1 : decide ((a0.size : Int) < 5) = false := decide_eq_false (by omega)
  have d2 : decide (a0.size < 5) = false := decide_eq_false (by omega)
  have d3 : decide ((69 : Int) < a0.size) = false := decide_eq_false (by omega)
  have d4 : decide (69 < a0.size) = false := decide_eq_false (by omega)
  go_enter Try.func26, Try.ntmps26
  go_upto_region 4 with (first
    | ((with_reducible refine gate_dst (N := 23) rfl ?_); refine bytes_event (s := a0) rfl rfl rfl ?_; intro g hg cap w1 B1 hb1; have G1 := Aside0.mk (show w.heap.size ≤ g by rw [hg]; exact HB.out.size); have HB1 := Aside0.mk (below_step HB.out hb1); have RB1 := Aside0.mk B1; clear hb1 B1 hg HB; have HB := HB1; clear HB1))
  obtain ⟨m, hm⟩ : ∃ m : Nat, a0.size = m + 2 := ⟨a0.size - 2, by omega⟩
  have hcap := RB1.out.le
  rw [hm] at z1 z2 hcap ⊢
  have i1 : wrap64 (((m + 2 : Nat) : Int) - 2) = (m : Int) := by unfold wrap64; omega
  go_upto_region 5 with (fail)
  have C0 : w1.cell? ⟨g, 0, none⟩ = some (.int .u8 (by8 a0 0)) := RB1.out.cell 0 (by omega)
  have C1 : w1.cell? ⟨g, 1, none⟩ = some (.int .u8 (by8 a0 1)) := RB1.out.cell 1 (by omega)
  have C2 : w1.cell? ⟨g, 2, none⟩ = some (.int .u8 (by8 a0 2)) := RB1.out.cell 2 (by omega)
  obtain ⟨u0, u1⟩ := by8_range a0 0
  obtain ⟨f0, f1⟩ := by8_range a0 1
  obtain ⟨n0, n1⟩ := by8_range a0 2
  have HH' := HH.out
  generalize hu : by8 a0 0 = u at *
  generalize hf : by8 a0 1 = f at *
  generalize hn : by8 a0 2 = n at *
  have q0 : ((0 : Int) < (m : Int)) = True := eq_true (by omega)
  have q1 : ((1 : Int) < (m : Int)) = True := eq_true (by omega)
  have q2 : ((2 : Int) < (m : Int)) = True := eq_true (by omega)
  have v0 : wrap64 u = u := by unfold wrap64; omega
  have v1 : wrap64 f = f := by unfold wrap64; omega
  have v2 : wrap64 n = n := by unfold wrap64; omega
  go_quiet (fail)
  have HB2 := Aside0.mk (pw_below_drewN HB.out nq)
  have RB2 := Aside0.mk (RB1.out.cong (W' := w1.drewN nq) rfl)
  clear C0 C1 C2 HB RB1
  generalize w1.drewN nq = w2 at HB2 RB2 ⊢
  have fin : Aside0 (∀ W : World, Below w.heap.size w W → (0, 0, ([] : List Int), 40) = (r1, r2, r3, r4) → ∃ v2_ : Value, Ending.returned (.tuple #[.int .i64 0, .int .i64 0, .slice none 0 0, .int .i64 40]) = Ending.returned (.tuple #[.int .i64 r1, .int .i64 r2, v2_, .int .i64 r4]) ∧ Kd.R (Kd.int .i64) 3 W w.heap.size (fun _ => True) v2_ r3 ∧ Below w.heap.size w W) := ⟨fun W hb e => by cases e; exact ⟨_, rfl, Kd.R_nil _ _ _ _ _, hb⟩⟩
  by_cases c1 : 1 ≤ u
  rotate_left
  · rw [if_neg (by omega)] at HH'
    have HR := Aside0.mk (Option.some.inj HH')
    have e1 : decide (u < 1) = true := decide_eq_true (by omega)
    clear HH'
    go_wp2_with fail
    ((try simp only [Exit.inBlock, Exit.then]); refine bodyPost_ret (results_list (rs := [.tmp 2, .tmp 3, .tmp 4, .tmp 5]) rfl (by simp) (.tmp (.tmp (.tmp (.tmp .nil))))) rfl ?_)
    exact fin.out _ HB2.out HR.out
  have e1 : decide (u < 1) = false := decide_eq_false (by omega)
  by_cases c2 : u ≤ 247
  rotate_left
  · rw [if_neg (by omega)] at HH'
    have HR := Aside0.mk (Option.some.inj HH')
    have e2 : decide (247 < u) = true := decide_eq_true (by omega)
    clear HH'
    go_wp2_with fail
    ((try simp only [Exit.inBlock, Exit.then]); refine bodyPost_ret (results_list (rs := [.tmp 2, .tmp 3, .tmp 4, .tmp 5]) rfl (by simp) (.tmp (.tmp (.tmp (.tmp .nil))))) rfl ?_)
    exact fin.out _ HB2.out HR.out
  have e2 : decide (247 < u) = false := decide_eq_false (by omega)
  by_cases c3 : 1 ≤ f
  rotate_left
  · rw [if_neg (by omega)] at HH'
    have HR := Aside0.mk (Option.some.inj HH')
    have e3 : decide (f < 1) = true := decide_eq_true (by omega)
    clear HH'
    go_wp2_with fail
    ((try simp only [Exit.inBlock, Exit.then]); refine bodyPost_ret (results_list (rs := [.tmp 2, .tmp 3, .tmp 4, .tmp 5]) rfl (by simp) (.tmp (.tmp (.tmp (.tmp .nil))))) rfl ?_)
    exact fin.out _ HB2.out HR.out
  have e3 : decide (f < 1) = false := decide_eq_false (by omega)
  by_cases c4 : f ≤ 2
  rotate_left
  · rw [if_neg (by omega)] at HH'
    have HR := Aside0.mk (Option.some.inj HH')
    have e4 : decide (2 < f) = true := decide_eq_true (by omega)
    clear HH'
    go_wp2_with fail
    ((try simp only [Exit.inBlock, Exit.then]); refine bodyPost_ret (results_list (rs := [.tmp 2, .tmp 3, .tmp 4, .tmp 5]) rfl (by simp) (.tmp (.tmp (.tmp (.tmp .nil))))) rfl ?_)
    exact fin.out _ HB2.out HR.out
  have e4 : decide (2 < f) = false := decide_eq_false (by omega)
  by_cases c5 : n ≤ 16
  rotate_left
  · rw [if_neg (by omega)] at HH'
    have HR := Aside0.mk (Option.some.inj HH')
    have e5 : decide (16 < n) = true := decide_eq_true (by omega)
    clear HH'
    go_wp2_with fail
    ((try simp only [Exit.inBlock, Exit.then]); refine bodyPost_ret (results_list (rs := [.tmp 2, .tmp 3, .tmp 4, .tmp 5]) rfl (by simp) (.tmp (.tmp (.tmp (.tmp .nil))))) rfl ?_)
    exact fin.out _ HB2.out HR.out
  have e5 : decide (16 < n) = false := decide_eq_false (by omega)
  by_cases c6 : (m : Int) = 3 + 4 * n
  rotate_left
  · rw [if_neg (by omega)] at HH'
    have HR := Aside0.mk (Option.some.inj HH')
    have v3 : wrap64 (4 * n) = 4 * n := by unfold wrap64; omega
    have v4 : wrap64 (3 + 4 * n) = 3 + 4 * n := by unfold wrap64; omega
    have e6 : ((m : Int) != 3 + 4 * n) = true := by simpa using c6
    clear HH' c6
    go_wp2_with fail
    ((try simp only [Exit.inBlock, Exit.then]); refine bodyPost_ret (results_list (rs := [.tmp 2, .tmp 3, .tmp 4, .tmp 5]) rfl (by simp) (.tmp (.tmp (.tmp (.tmp .nil))))) rfl ?_)
    exact fin.out _ HB2.out HR.out
  rw [if_pos (by omega)] at HH'
  obtain ⟨N, hN⟩ : ∃ N : Nat, n = (N : Int) := ⟨n.toNat, by omega⟩
  have hm3 : m = 3 + 4 * N := by omega
  have e8 := Aside0.mk (show a0.size = 5 + 4 * N ∧ N ≤ 16 from ⟨by omega, by omega⟩)
  rw [show n.toNat = N by omega] at HH'
  have h3m : 3 ≤ m := by omega
  have hN1 := Aside0.mk (And.intro hN hm3)
  have HF := Aside0.mk HH'
  have v3 : wrap64 (4 * n) = 4 * n := by unfold wrap64; omega
  have v4 : wrap64 (3 + 4 * n) = 3 + 4 * n := by unfold wrap64; omega
  have e6 : ((m : Int) != 3 + 4 * n) = false := by simpa using c6
  clear HH' HH c6 hN hm3 hn
  go_wp2_with (first
    | ((with_reducible refine gate_dst (N := 71) rfl ?_); refine resl_event g 0 m 3 rfl rfl rfl h3m ?_; intro A0 hA0; have HA0 := Aside0.mk hA0; clear hA0))
  clear v3 v4 e6 e5
  go_loopg [11, 12] N (fun gg v11 v12 wr => ∃ (i j n o : Nat) (A : Option Addr), i + j = N ∧ j ≤ gg ∧ n = 4 * j ∧ o = 3 + 4 * i ∧ v12 = .slice A n n ∧ Aside0 (0 < j → A = some ⟨g, o, none⟩) ∧ Aside0 (∃ xs, xs ++ valsB a0 j o = valsB a0 N 3 ∧ xs.length = i ∧ Kd.R (Kd.int .i64) 3 wr w.heap.size (fun _ => True) v11 xs) ∧ Aside0 (Below w.heap.size w wr) ∧ Aside0 (RB wr g a0 cap))
  case atStart => exact ⟨0, N, m - 3, 3, A0, by omega, by omega, by have := hN1.out.2; omega, rfl, rfl, ⟨fun h => HA0.out (by have := hN1.out.2; omega)⟩, ⟨[], rfl, rfl, Kd.R_nil _ _ _ _ _⟩, HB2, RB2⟩
  case round =>
    clear HB2 RB2
    obtain ⟨i, j, n, o, A, hij, hjg, hn4, ho, rfl, HA, HX, HB, RB⟩ := hrel
    obtain ⟨xs, hxs, hl, hR⟩ := HX.out
    clear HX
    cases j with
    | zero =>
      obtain rfl : n = 0 := by omega
      rw [valsB, List.append_nil] at hxs
      subst hxs
      obtain ⟨A2, c2, hv, hc2, hC⟩ := Kd.R_reads hR
      subst hv
      have HR := Aside0.mk hR
      have h := HF.out
      clear hR hn4 hjg hij hl
      generalize hvs : valsB a0 N 3 = vs at *
      clear hvs
      cases hfr : bus_frame.f k u f vs with
      | none => rw [hfr] at h; cases h
      | some fr =>
        rw [hfr, Option.bind_some] at h
        have HC := Aside0.mk (bus_frame.calls k u f A2 c2 vs fr wr hC hc2 hfr)
        by_cases e : (fr.toList == a0.toList) = true
        · rw [if_pos e] at h
          have H1 := Aside0.mk (Option.some.inj h)
          have e9 := e
          clear h HF hC hc2 hfr
          go_wp2_with (go_at_call 48; (with_reducible refine HC.out.mono ?_); rintro e_ w4 ⟨rfl, hb⟩; have HB4 := Aside0.mk (below_step HB.out hb); have HR4 := Aside0.mk (Kd.R_below HR.out hb); clear hb)
          ((try simp only [Exit.inBlock, Exit.then]); refine bodyPost_ret (results_list (rs := [.tmp 2, .tmp 3, .tmp 4, .tmp 5]) rfl (by simp) (.tmp (.tmp (.tmp (.tmp .nil))))) rfl ?_)
          have h2 := H1.out
          cases h2
          exact ⟨_, rfl, HR4.out, HB4.out⟩
        · rw [if_neg e] at h
          have H1 := Aside0.mk (Option.some.inj h)
          have e9 : (fr.toList == a0.toList) = false := by simpa using e
          clear h HF hC hc2 hfr
          go_wp2_with (go_at_call 48; (with_reducible refine HC.out.mono ?_); rintro e_ w4 ⟨rfl, hb⟩; have HB4 := Aside0.mk (below_step HB.out hb); clear hb)
          ((try simp only [Exit.inBlock, Exit.then]); refine bodyPost_ret (results_list (rs := [.tmp 2, .tmp 3, .tmp 4, .tmp 5]) rfl (by simp) (.tmp (.tmp (.tmp (.tmp .nil))))) rfl ?_)
          exact fin.out _ HB4.out H1.out
    | succ j =>
      obtain rfl := HA.out (Nat.succ_pos j)
      clear HA
      have C0 : wr.cell? ⟨g, o, none⟩ = some (.int .u8 (by8 a0 o)) := RB.out.cell o (by have := e8.out; omega)
      have C1 : wr.cell? ⟨g, o + 1, none⟩ = some (.int .u8 (by8 a0 (o + 1))) := RB.out.cell (o + 1) (by have := e8.out; omega)
      have C2 : wr.cell? ⟨g, o + 2, none⟩ = some (.int .u8 (by8 a0 (o + 2))) := RB.out.cell (o + 2) (by have := e8.out; omega)
      have C3 : wr.cell? ⟨g, o + 3, none⟩ = some (.int .u8 (by8 a0 (o + 3))) := RB.out.cell (o + 3) (by have := e8.out; omega)
      have R0 := by8_range a0 o
      have R1 := by8_range a0 (o + 1)
      have R2 := by8_range a0 (o + 2)
      have R3 := by8_range a0 (o + 3)
      rw [valsB, be32] at hxs
      generalize by8 a0 o = b0 at *
      generalize by8 a0 (o + 1) = b1 at *
      generalize by8 a0 (o + 2) = b2 at *
      generalize by8 a0 (o + 3) = b3 at *
      have t0 : decide (0 < (n : Int)) = true := decide_eq_true (by omega)
      have t1 : ((0 : Int) < (n : Int)) = True := eq_true (by omega)
      have t2 : ((1 : Int) < (n : Int)) = True := eq_true (by omega)
      have t3 : ((2 : Int) < (n : Int)) = True := eq_true (by omega)
      have t4 : ((3 : Int) < (n : Int)) = True := eq_true (by omega)
      have s0 : decide (0 < n) = true := decide_eq_true (by omega)
      have s1 : (0 < n) = True := eq_true (by omega)
      have s2 : (1 < n) = True := eq_true (by omega)
      have s3 : (2 < n) = True := eq_true (by omega)
      have s4 : (3 < n) = True := eq_true (by omega)
      have AR := Aside0.mk (And.intro hij (And.intro hjg (And.intro hn4 (And.intro ho (And.intro hxs hl)))))
      have AQ := Aside0.mk (And.intro R0 (And.intro R1 (And.intro R2 R3)))
      have HR := Aside0.mk hR
      clear hij hjg hn4 ho hxs hl R0 R1 R2 R3 hR
      go_upto_region 12 with (fail)
      go_quiet (fail)
      have HBd := Aside0.mk (pw_below_drewN HB.out nq)
      have RBd := Aside0.mk (RB.out.cong (W' := wr.drewN nq) rfl)
      have HRd := Aside0.mk (Kd.R_drewN HR.out nq)
      rw [be_or b0 b1 b2 b3 AQ.out.1 AQ.out.2.1 AQ.out.2.2.1 AQ.out.2.2.2]
      have HX := Aside0.mk (show xs ++ (if b0 * 16777216 + b1 * 65536 + b2 * 256 + b3 < 2147483648 then b0 * 16777216 + b1 * 65536 + b2 * 256 + b3 else b0 * 16777216 + b1 * 65536 + b2 * 256 + b3 - 4294967296) :: valsB a0 j (o + 4) = valsB a0 N 3 from AR.out.2.2.2.2.1)
      have hU : 0 ≤ b0 * 16777216 + b1 * 65536 + b2 * 256 + b3 ∧ b0 * 16777216 + b1 * 65536 + b2 * 256 + b3 < 4294967296 := by have := AQ.out; omega
      clear C0 C1 C2 C3 HB RB HR AQ
      generalize b0 * 16777216 + b1 * 65536 + b2 * 256 + b3 = U at HX hU ⊢
      generalize wr.drewN nq = wd at HBd RBd HRd ⊢
      have HU := Aside0.mk hU
      clear hU
      obtain ⟨V, hV⟩ : ∃ V : Int, V = if U < 2147483648 then U else U - 4294967296 := ⟨_, rfl⟩
      rw [← hV] at HX
      have w1_ : wrap32 U = V := by rw [hV]; have := HU.out; unfold wrap32; split <;> omega
      have w2_ : wrap64 V = V := by rw [hV]; have := HU.out; unfold wrap64; split <;> omega
      have LM : Aside0 (xs.length < 17) := ⟨by have := AR.out.1; have := AR.out.2.2.2.2.2; have := e8.out.2; omega⟩
      clear hV
      go_wp2_with (first
        | ((with_reducible refine gate_builtin (b := .append) (xs := #[.tmp 99, .tmp 103]) rfl ?_); at_builtin; refine Kd.R_append (Kd.int .i64) (w0 := w) w.heap.size rfl (.tmp 99) (.tmp 103) 38 3 (.int .i64 0) 8 rfl Try.underlying38 info3 rfl (by decide) (by omega) u11 xs V [.int .i64 V] (fun _ => True) (fun _ => False) rfl rfl ?aP (fun _ hk => hk.elim) ?aF ?aO ?aB ?aS ?aL ?_; (case aP => exact rfl); (case aB => exact (xh HBd.out)); (case aF => exact (fun _ _ => trivial)); (case aO => exact (xr HRd.out)); (case aS => exact (below_size (xh HBd.out))); (case aL => have := LM.out; omega); intro v229 w11 ho hb hg hat; have RBe : Aside0 (RB w11 g a0 cap) := ⟨by obtain ⟨cs, hb0, hb1⟩ := RBd.out.go; exact ⟨⟨cs, blk_grown (xb hb0) hg (rb_ne RBd.out HRd.out (by decide)), hb1⟩, RBd.out.le⟩⟩; have n1_ := Aside0.mk (hb); have n2_ := Aside0.mk (ho); clear HBd HRd RBd; have HB := n1_; have HR := n2_; clear n1_ n2_; clear ho hb hg hat)
        | ((with_reducible refine gate_dst (N := 76) rfl ?_); refine resl_event g o n 4 rfl rfl rfl (by have := AR.out.2.2.1; omega) ?_; intro A0 hA0; have HA0 := Aside0.mk hA0; clear hA0))
      go_roundg j
      case measure => have := AR.out; omega
      case rel => exact ⟨i + 1, j, n - 4, o + 4, A0, by have := AR.out; omega, by omega, by have := AR.out; omega, by have := AR.out; omega, rfl, ⟨fun h => HA0.out (by have := AR.out; omega)⟩, ⟨xs ++ [V], by rw [← HX.out, List.append_assoc]; rfl, by have := AR.out; simp; omega, HR.out⟩, HB, RBe⟩
end Go.Proofs.Ytinicdlpinkmjaa.P
