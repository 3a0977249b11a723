import Derived.Test.YthnepnonknejaaaDoorJe
import Derived.Test.YthnepnonknejaaaDoorJf
import Derived.Test.YthnepnonknejaaaDoorJg
import Derived.Test.YthnepnonknejaaaDoorF31
set_option linter.unusedVariables false
set_option linter.unusedSimpArgs false
namespace Go.Proofs.YthnepnonknejaaaDoor.P
open Go.RowKit Go.Proofs.YthnepnonknejaaaDoorW.PrintWords Go.Proofs.YthnepnonknejaaaDoorW.PrintLast Go.Proofs.YthnepnonknejaaaDoorW.PrintMore
set_option maxHeartbeats 8000000 in
set_option maxRecDepth 100000 in
theorem ins88_nil (A : Option Addr) (c : Nat) (cv : Value) (w : World) : Calls Tryd.prog 88 #[.slice A 0 c, .int .i64 0, .int .i64 0, cv] w fun e w' => e = .returned (.tuple #[]) ∧ Below w.heap.size w w' := by
  have HB := Aside0.mk (Below.refl w.heap.size w)
  have ew : wrap64 1 = 1 := by unfold wrap64; omega
  go_enter Tryd.func88, Tryd.ntmps88
  go_wp2
  go_loopg [8] 0 (fun k s8 wr => s8 = .int .i64 1 ∧ Aside0 (Below w.heap.size w wr))
  case atStart => exact ⟨by first | rfl | rw [ew], HB⟩
  case round =>
    clear HB
    obtain ⟨rfl, HB⟩ := hrel
    go_wp2
    refine bodyPost_end (results_none rfl _ _ _) rfl ?_
    exact ⟨by rfl, by exact xh HB.out⟩
set_option maxHeartbeats 8000000 in
set_option maxRecDepth 100000 in
theorem stable78_nil (A : Option Addr) (c : Nat) (cv : Value) (w : World) : Calls Tryd.prog 78 #[.slice A 0 c, .int .i64 0, cv] w fun e w' => e = .returned (.tuple #[]) ∧ Below w.heap.size w w' := by
  have HB := Aside0.mk (Below.refl w.heap.size w)
  go_enter Tryd.func78, Tryd.ntmps78
  go_wp2
  go_loopg [7, 8] 0 (fun k s7 s8 wr => s7 = .int .i64 0 ∧ s8 = .int .i64 20 ∧ Aside0 (Below w.heap.size w wr))
  case atStart => exact ⟨rfl, rfl, HB⟩
  case round =>
    clear HB
    obtain ⟨rfl, rfl, HB⟩ := hrel
    go_wp2_with (go_at_call 88; (with_reducible refine (ins88_nil A c cv _).mono ?_); rintro e w9 ⟨rfl, hb⟩; have nB := Aside0.mk (below_step (xh HB.out) hb); clear HB hb; have HB := nB; clear nB)
    go_loopg [6] 0 (fun k s6 wr => s6 = .int .i64 20 ∧ Aside0 (Below w.heap.size w wr))
    case atStart => exact ⟨rfl, ⟨xh HB.out⟩⟩
    case round =>
      clear HB
      obtain ⟨rfl, HB⟩ := hrel
      go_wp2
      refine bodyPost_end (results_none rfl _ _ _) rfl ?_
      exact ⟨by rfl, by exact xh HB.out⟩
set_option maxHeartbeats 8000000 in
set_option maxRecDepth 100000 in
theorem stable78.calls (g2 : Nat) (ad : Addr) (c : Nat) (l : List S32) (w : World) (hr : Kd.C k32 w (some ad) l.length l) (hg : w.heap[g2]? = some (.cells #[.func (.func 25) #[] #[]] 70 (0, 0))) (hs : Srt l) (hn : l.length < 1152921504606846976) (hp : 0 < l.length) :
    Calls Tryd.prog 78 #[.slice (some ad) l.length c, .int .i64 (l.length : Int), .func (.func 50) #[] #[.pointer (some ⟨g2, 0, none⟩)]] w fun e w' => e = .returned (.tuple #[]) ∧ Below w.heap.size w w' := by
  have HR := Aside0.mk hr
  have HG := Aside0.mk hg
  have HS := Aside0.mk hs
  have HN := Aside0.mk hn
  obtain ⟨n, hnn⟩ : ∃ n_ : Int, n_ = (l.length : Int) := ⟨_, rfl⟩
  rw [← hnn]
  have HP := Aside0.mk (show 0 < n ∧ n = (l.length : Int) ∧ n < 1152921504606846976 by omega)
  clear hr hg hs hn hp hnn
  have HB := Aside0.mk (Below.refl w.heap.size w)
  go_enter Tryd.func78, Tryd.ntmps78
  go_wp2
  go_loopg [7, 8] n.toNat (fun k s7 s8 wr => ∃ s b : Int, s7 = .int .i64 s ∧ s8 = .int .i64 b ∧ Aside0 (0 ≤ s ∧ s ≤ n ∧ b = s + 20) ∧ Aside0 (n - s ≤ k) ∧ Aside0 (Below w.heap.size w wr))
  case atStart => exact ⟨0, 20, rfl, rfl, ⟨by have := HP.out; omega⟩, ⟨by omega⟩, HB⟩
  case round =>
    clear HB
    obtain ⟨s, b, rfl, rfl, HI, HK, HB⟩ := hrel
    by_cases hlt : b ≤ n
    · have HL := Aside0.mk hlt
      replace hlt := eq_true hlt
      have e1 : wrap64 (b + 20) = b + 20 := by unfold wrap64; have := HP.out; have := HI.out; have := HL.out; omega
      go_wp2_with (go_at_call 88; (with_reducible refine (ins88.calls g2 ad c l s b _ (Kd.C_below HR.out (xh HB.out)) (blk_below HG.out (xh HB.out)) HS.out (by have := HP.out; omega) (by have := HI.out; omega) (by have := HP.out; have := HI.out; have := HL.out; omega)).mono ?_); rintro e w9 ⟨rfl, hb⟩; have nB := Aside0.mk (below_step (xh HB.out) hb); clear HB hb; have HB := nB; clear nB)
      go_roundg (n - b).toNat
      case measure => have := HP.out; have := HI.out; have := HK.out; have := HL.out; omega
      case rel => exact ⟨b, b + 20, rfl, by first | rfl | rw [e1], ⟨by have := HI.out; have := HL.out; omega⟩, ⟨by omega⟩, ⟨xh HB.out⟩⟩
    · replace hlt := eq_false hlt
      go_wp2_with (go_at_call 88; (with_reducible refine (ins88.calls g2 ad c l s n _ (Kd.C_below HR.out (xh HB.out)) (blk_below HG.out (xh HB.out)) HS.out (by have := HP.out; omega) (by have := HI.out; omega) (by have := HP.out; have := HI.out; skip; omega)).mono ?_); rintro e w9 ⟨rfl, hb⟩; have nB := Aside0.mk (below_step (xh HB.out) hb); clear HB hb; have HB := nB; clear nB)
      clear hlt
      go_loopg [6] n.toNat (fun k s6 wr => ∃ bs : Int, s6 = .int .i64 bs ∧ Aside0 (20 ≤ bs ∧ bs ≤ 20 + 2 * n) ∧ Aside0 (n - bs ≤ k) ∧ Aside0 (Below w.heap.size w wr))
      case atStart => exact ⟨20, rfl, ⟨by have := HP.out; omega⟩, ⟨by have := HP.out; omega⟩, ⟨xh HB.out⟩⟩
      case round =>
        clear HB HI HK
        obtain ⟨bs, rfl, HI, HK, HB⟩ := hrel
        by_cases hlt : bs < n
        · have HL := Aside0.mk hlt
          replace hlt := eq_true hlt
          have e2 : wrap64 (2 * bs) = 2 * bs := by unfold wrap64; have := HP.out; have := HI.out; have := HL.out; omega
          go_wp2
          (try rw [e2])
          clear e2
          go_loopg [7, 8] n.toNat (fun k s7 s8 wr => ∃ s b : Int, s7 = .int .i64 s ∧ s8 = .int .i64 b ∧ Aside0 (0 ≤ s ∧ s ≤ n ∧ b = s + 2 * bs) ∧ Aside0 (n - s ≤ k) ∧ Aside0 (Below w.heap.size w wr))
          case atStart => exact ⟨0, 2 * bs, rfl, rfl, ⟨by have := HP.out; omega⟩, ⟨by omega⟩, ⟨xh HB.out⟩⟩
          case round =>
            clear HB hlt
            obtain ⟨s, b, rfl, rfl, HI3, HK3, HB⟩ := hrel
            have e3 : wrap64 (s + bs) = s + bs := by unfold wrap64; have := HP.out; have := HI.out; have := HL.out; have := HI3.out; omega
            by_cases hlt : b ≤ n
            · have HL3 := Aside0.mk hlt
              replace hlt := eq_true hlt
              have E4 := Aside0.mk (show wrap64 (b + wrap64 (2 * bs)) = b + 2 * bs by rw [show wrap64 (2 * bs) = 2 * bs by unfold wrap64; have := HP.out; have := HI.out; have := HL.out; omega]; unfold wrap64; have := HP.out; have := HI.out; have := HL.out; have := HI3.out; have := HL3.out; omega)
              have HQ := Aside0.mk (sym89.calls g2 ad c l HS.out (by have := HP.out; omega) (b - s).toNat s (s + bs) b wr (by omega) (blk_below HG.out (xh HB.out)) (by have := HI3.out; omega) (by have := HP.out; have := HI.out; have := HL.out; have := HI3.out; have := HL3.out; omega) (Kd.C_below HR.out (xh HB.out)))
              go_upto_region 11 with (go_at_call 89; (with_reducible refine HQ.out.mono ?_); rintro e w9 ⟨rfl, hb⟩; have nB := Aside0.mk (below_step (xh HB.out) hb); clear HB hb; have HB := nB; clear nB)
              go_wp2
              go_roundg (n - b).toNat
              case measure => have := HP.out; have := HI.out; have := HI3.out; have := HK3.out; have := HL3.out; omega
              case rel => exact ⟨b, b + 2 * bs, rfl, by rw [E4.out], ⟨by have := HI3.out; have := HI.out; have := HL3.out; omega⟩, ⟨by omega⟩, ⟨xh HB.out⟩⟩
            · replace hlt := eq_false hlt
              have e5 : wrap64 (bs * 2) = 2 * bs := by unfold wrap64; have := HP.out; have := HI.out; have := HL.out; omega
              by_cases h3 : s + bs < n
              · have H3 := Aside0.mk h3
                replace h3 := eq_true h3
                have HQ := Aside0.mk (sym89.calls g2 ad c l HS.out (by have := HP.out; omega) (n - s).toNat s (s + bs) n wr (by omega) (blk_below HG.out (xh HB.out)) (by have := HI3.out; omega) (by have := HP.out; have := HI.out; have := HL.out; have := HI3.out; have := H3.out; omega) (Kd.C_below HR.out (xh HB.out)))
                go_wp2_with (go_at_call 89; (with_reducible refine HQ.out.mono ?_); rintro e w9 ⟨rfl, hb⟩; have nB := Aside0.mk (below_step (xh HB.out) hb); clear HB hb; have HB := nB; clear nB)
                go_roundg (n - 2 * bs).toNat
                case measure => have := HP.out; have := HI.out; have := HK.out; have := HL.out; omega
                case rel => exact ⟨2 * bs, by first | rfl | rw [e5], ⟨by have := HI.out; have := HL.out; omega⟩, ⟨by omega⟩, ⟨xh HB.out⟩⟩
              · replace h3 := eq_false h3
                go_wp2
                go_roundg (n - 2 * bs).toNat
                case measure => have := HP.out; have := HI.out; have := HK.out; have := HL.out; omega
                case rel => exact ⟨2 * bs, by first | rfl | rw [e5], ⟨by have := HI.out; have := HL.out; omega⟩, ⟨by omega⟩, ⟨xh HB.out⟩⟩
        · replace hlt := eq_false hlt
          go_wp2
          refine bodyPost_end (results_none rfl _ _ _) rfl ?_
          exact ⟨by rfl, by exact xh HB.out⟩
set_option maxHeartbeats 8000000 in
set_option maxRecDepth 100000 in
theorem ordered24.calls (A : Option Addr) (c : Nat) (l : List S32) (w : World) (hr : Kd.C k32 w A l.length l) (hs : Srt l) (hn : l.length < 1152921504606846976) :
    Calls Tryd.prog 24 #[.slice A l.length c, .func (.func 25) #[] #[]] w fun e w' => e = .returned (.tuple #[]) ∧ Below w.heap.size w w' := by
  have H78 : ∀ (g2 : Nat) (W : World), Below w.heap.size w W → W.heap[g2]? = some (.cells #[.func (.func 25) #[] #[]] 70 (0, 0)) → Calls Tryd.prog 78 #[.slice A l.length c, .int .i64 (l.length : Int), .func (.func 50) #[] #[.pointer (some ⟨g2, 0, none⟩)]] W fun e w' => e = .returned (.tuple #[]) ∧ Below W.heap.size W w' := by
    intro g2 W hb hg
    by_cases hp : 0 < l.length
    · obtain ⟨ad, e, _⟩ := hr.2.2 hp
      subst e
      exact stable78.calls g2 ad c l W (Kd.C_below hr hb) hg hs hn hp
    · obtain rfl : l = [] := List.eq_nil_of_length_eq_zero (by omega)
      exact stable78_nil A c _ W
  have H49 : ∀ (g2 : Nat) (W : World), Below w.heap.size w W → W.heap[g2]? = some (.cells #[.func (.func 25) #[] #[]] 70 (0, 0)) → Calls Tryd.prog 49 #[.slice A l.length c, .func (.func 50) #[] #[.pointer (some ⟨g2, 0, none⟩)]] W fun e w' => e = .returned (.tuple #[]) ∧ Below W.heap.size W w' := by
    intro g2 W hb hg
    have HX := Aside0.mk (H78 g2)
    have HB := Aside0.mk hb
    have HG := Aside0.mk hg
    clear hb hg H78 hr hs hn
    have HB2 := Aside0.mk (Below.refl W.heap.size W)
    go_enter Tryd.func49, Tryd.ntmps49
    go_wp2_with (go_at_call 78; (with_reducible refine (HX.out _ (below_step HB.out (xh HB2.out)) (blk_below HG.out (xh HB2.out))).mono ?_); rintro e w9 ⟨rfl, hb⟩; have nB := Aside0.mk (below_step (xh HB2.out) hb); clear HB2 hb; have HB2 := nB; clear nB)
    refine bodyPost_end (results_none rfl _ _ _) rfl ?_
    exact ⟨by rfl, by exact xh HB2.out⟩
  have HX := Aside0.mk H49
  clear H78 H49 hr hs hn
  have HB := Aside0.mk (Below.refl w.heap.size w)
  go_enter Tryd.func24, Tryd.ntmps24
  go_wp2_with (first
    | ((with_reducible refine gate_dst (N := 3) rfl ?_); refine box_event ?hg (N := 3) ?hd (cs := #[.func (.func 25) #[] #[]]) (t := 70) ?hr ?_; (case hd => rfl); (case hg => rfl); (case hr => first | (go_simp; done) | (go_simp; rfl)); intro g3 hg w1 hbox hb; have nB := Aside0.mk (below_step (xh HB.out) hb); have B3 := Aside0.mk hbox; clear HB hb hbox hg; have HB := nB; clear nB)
    | (go_at_call 49; (with_reducible refine (HX.out g3 _ (xh HB.out) (xb B3.out)).mono ?_); rintro e w9 ⟨rfl, hb⟩; have nB := Aside0.mk (below_step (xh HB.out) hb); clear HB hb; have HB := nB; clear nB))
  refine bodyPost_end (results_none rfl _ _ _) rfl ?_
  exact ⟨by rfl, by exact xh HB.out⟩
end Go.Proofs.YthnepnonknejaaaDoor.P
