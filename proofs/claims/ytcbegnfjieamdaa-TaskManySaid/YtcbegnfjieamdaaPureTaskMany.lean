/- TaskMany: the releases from one time to another one are those of both parts. No condition but the row's own. -/
import Derived.Test.YtcbegnfjieamdaaUb
import Derived.Test.YtcbegnfjieamdaaTm
namespace Go.Proofs.Ytcbegnfjieamdaa.Pure
open Go.RowKit Go.Proofs.Ytcbegnfjieamdaa.P Go.Proofs.YtcbegnfjieamdaaW.PrintWords Go.Proofs.YtcbegnfjieamdaaW.PrintLast Go.Proofs.YtcbegnfjieamdaaW.PrintMore
set_option maxRecDepth 100000 in
theorem awake_ev : Ev (fun k => winchlaw22_awake.f k) true := Ev.of winchlaw22_awake.mono (k := 60) (by decide +kernel)
theorem many (x : S58) (t0 t1 t2 : Int) : Ev (fun k => winchlaw22_TaskMany.f k x.f0 x.f1 x.f2 x.f3 x.f4 t0 t1 t2) true := by
  unfold winchlaw22_TaskMany.f
  refine Ev.bind (formed_ev [x]) ?_
  by_cases hf : formed [x]
  · simp only [decide_eq_true hf, if_true]
    by_cases c0 : t0 < 0
    · simp only [if_pos c0]; exact awake_ev
    · simp only [if_neg c0]
      by_cases c1 : t1 < t0
      · simp only [if_pos c1]; exact awake_ev
      · simp only [if_neg c1]
        by_cases c2 : t2 ≤ t1
        · simp only [if_pos c2]; exact awake_ev
        · simp only [if_neg c2]
          by_cases c3 : t2 > 1000000000
          · simp only [if_pos c3]; exact awake_ev
          · simp only [if_neg c3]
            have hg : good x := hf.2 x (List.mem_singleton.2 rfl)
            have hw : wrap64 (t1 + 1) = t1 + 1 := wrap_id (by omega) (by omega)
            rw [hw, releases_eq x t0 t1 hg (by omega) (by omega) (by omega) (by omega), releases_eq x (t1 + 1) t2 hg (by omega) (by omega) (by omega) (by omega), releases_eq x t0 t2 hg (by omega) (by omega) (by omega) (by omega)]
            simp only [Option.bind_some]
            have hp : 0 < x.f1 := by have := hg; unfold good at this; omega
            have e1 : t1 + 1 - 1 = t1 := by omega
            rw [e1]
            have m1 := upTo_mono x hp (show t0 - 1 ≤ t1 by omega)
            have m2 := upTo_mono x hp (show t1 ≤ t2 by omega)
            have u0 := upTo_nonneg x (t0 - 1) hp
            have u2 := upTo_le x hg (show t2 ≤ 1000000000 by omega)
            have mxe : ∀ n : Int, 0 ≤ n → mx 0 n = n := by
              intro n hn
              unfold mx
              split <;> omega
            rw [mxe _ (by omega), mxe _ (by omega), mxe _ (by omega), wrap_id (by omega) (by omega)]
            exact Ev.congr (fun k => if_pos ⟨trivial, trivial, trivial, by omega, by omega, by omega⟩) awake_ev
  · simp only [decide_eq_false hf, Bool.false_eq_true, if_false]
    exact awake_ev
theorem TaskMany (a0 : ByteArray) (a1 a2 a3 : Int) (a4 : List ByteArray) (t0 t1 t2 : Int) {p q : Prop} (_ : p) (_ : q) : Ev (fun k => winchlaw22_TaskMany.f k a0 a1 a2 a3 a4 t0 t1 t2) true := many ⟨a0, a1, a2, a3, a4⟩ t0 t1 t2
end Go.Proofs.Ytcbegnfjieamdaa.Pure
