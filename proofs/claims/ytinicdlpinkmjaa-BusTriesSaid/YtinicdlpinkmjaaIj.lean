import Derived.Test.YtinicdlpinkmjaaPx0
namespace Go.Proofs.Ytinicdlpinkmjaa.P
theorem im_sz {t : TypeId} (pre : Array Value) (m : Im) (post : Array Value) (h : (Try.prog.info? t).map (·.size) = some (pre.size + (192 + post.size))) : (Try.prog.info? t).map (·.size) = some (pre ++ (ims m ++ post)).size := by
  rw [h, Array.size_append, Array.size_append, ims_size]
end Go.Proofs.Ytinicdlpinkmjaa.P
