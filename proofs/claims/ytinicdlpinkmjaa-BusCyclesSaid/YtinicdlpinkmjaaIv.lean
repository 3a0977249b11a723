import Derived.Test.YtinicdlpinkmjaaPx0
namespace Go.Proofs.Ytinicdlpinkmjaa.P
theorem im_sz {t : TypeId} (pre : Array Value) (m : Im) (post : Array Value) (h : (Try.prog.info? t).map (·.size) = some (pre.size + (192 + post.size))) : (Try.prog.info? t).map (·.size) = some (pre ++ (ims m ++ post)).size := by
 rw [h, Array.size_append, Array.size_append, ims_size]
end Go.Proofs.Ytinicdlpinkmjaa.P
namespace Go.Proofs.Ytinicdlpinkmjaa.P
open Go.RowKit Go.Proofs.Yw Go.Proofs.Yl Go.Proofs.Ym
theorem eqA47 (d : Nat) (w : World) (x0 y0 : Int) (x1 y1 : Bool) :
  (Op.equalIn (d + 2) 47 (.agg #[.int .i64 x0, .bool x1]) (.agg #[.int .i64 y0, .bool y1])).run Try.prog w = .ok (x0 == y0 && (x1 == y1)) w := by
 refine eqA_of Try.underlying47 (by kernel_rfl) ?_
 refine eqf_cons (by rfl) (by go_simp; rfl) (by go_simp; rfl) (by go_simp) ?_
 exact eqf_last (by rfl) (by go_simp; rfl) (by go_simp; rfl) (by go_simp)
end Go.Proofs.Ytinicdlpinkmjaa.P
