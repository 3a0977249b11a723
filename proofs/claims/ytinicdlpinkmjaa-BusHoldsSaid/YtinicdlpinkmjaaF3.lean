import Derived.Test.YtinicdlpinkmjaaXw
import Derived.Test.YtinicdlpinkmjaaF10
import Derived.Test.YtinicdlpinkmjaaF11
import Derived.Test.YtinicdlpinkmjaaIj
import Derived.Test.YtinicdlpinkmjaaIq
import Derived.Test.YtinicdlpinkmjaaPx0
namespace Go.Proofs.Ytinicdlpinkmjaa.P
open Go.RowKit Go.Proofs.YtinicdlpinkmjaaW.PrintWords Go.Proofs.YtinicdlpinkmjaaW.PrintLast Go.Proofs.YtinicdlpinkmjaaW.PrintMore
attribute [local go_sem] max2_int min2_int max_two min_two max_three min_three max_four min_four
set_option linter.unusedVariables false
set_option linter.unusedSimpArgs false
mutual
def winchlaw21_BusHolds.j0 : Nat → List (S43) → List (S47) → Bool → List (S40) → List (S43) → Im → List (List Int) → List (S80) → Im → Option (Bool)
  | 0, _, _, _, _, _, _, _, _, _ => none
  | k + 1, x3, x5, x68, x236000, x236001, x236002, x236003, x236004, x247000 => if x68 = true then (none) else (if 64 ≤ 281474976710656 then (winchlaw21_BusHolds.l0 k x3 x5 (List.replicate 64 false) x236000 (x236000.length : Int) 0 x236000 x236001 x236002 x236003 x236004 x247000) else (none))
def winchlaw21_BusHolds.l0 : Nat → List (S43) → List (S47) → List Bool → List (S40) → Int → Int → List (S40) → List (S43) → Im → List (List Int) → List (S80) → Im → Option (Bool)
  | 0, _, _, _, _, _, _, _, _, _, _, _, _ => none
  | k + 1, x3, x5, x7, x71, x72, x73, x236000, x236001, x236002, x236003, x236004, x247000 => if x73 < x72 then (if 0 ≤ x73 then (if x73 < (x71.length : Int) then ((winchlaw21_outs.f k x236002 ((rd_T40 x71 x73).f2)).bind fun t252 => (if x73 < (x3.length : Int) then ((winchlaw21_ints.f k ((rd_T43 x3 x73).f0) t252).bind fun t257 => (if t257 = true then (if ((rd_T43 x3 x73).f1) ≥ ((rd_T40 x71 x73).f3) then ((winchlaw21_zeros.f k ((rd_T43 x3 x73).f0)).bind fun t259 => (winchlaw21_BusHolds.j2 k x3 x5 x7 x73 t252 x71 x72 x73 (!t259) x236000 x236001 x236002 x236003 x236004 x247000 ((rd_T40 x71 x73).f0) ((rd_T40 x71 x73).f1) ((rd_T40 x71 x73).f2) ((rd_T40 x71 x73).f3))) else (winchlaw21_BusHolds.j2 k x3 x5 x7 x73 t252 x71 x72 x73 false x236000 x236001 x236002 x236003 x236004 x247000 ((rd_T40 x71 x73).f0) ((rd_T40 x71 x73).f1) ((rd_T40 x71 x73).f2) ((rd_T40 x71 x73).f3))) else (if ((rd_T43 x3 x73).f1) ≥ ((rd_T40 x71 x73).f3) then ((winchlaw21_zeros.f k ((rd_T43 x3 x73).f0)).bind fun t261 => (if t261 = true then ((winchlaw21_zeros.f k ((rd_T43 x3 x73).f0)).bind fun t263 => (winchlaw21_BusHolds.j2 k x3 x5 x7 x73 t252 x71 x72 x73 (!t263) x236000 x236001 x236002 x236003 x236004 x247000 ((rd_T40 x71 x73).f0) ((rd_T40 x71 x73).f1) ((rd_T40 x71 x73).f2) ((rd_T40 x71 x73).f3))) else (if x73 < (x236001.length : Int) then ((winchlaw21_ints.f k ((rd_T43 x3 x73).f0) ((rd_T43 x236001 x73).f0)).bind fun t266 => (if t266 = true then ((winchlaw21_zeros.f k ((rd_T43 x3 x73).f0)).bind fun t268 => (winchlaw21_BusHolds.j2 k x3 x5 x7 x73 t252 x71 x72 x73 (!t268) x236000 x236001 x236002 x236003 x236004 x247000 ((rd_T40 x71 x73).f0) ((rd_T40 x71 x73).f1) ((rd_T40 x71 x73).f2) ((rd_T40 x71 x73).f3))) else (none))) else (none)))) else (if x73 < (x236001.length : Int) then ((winchlaw21_ints.f k ((rd_T43 x3 x73).f0) ((rd_T43 x236001 x73).f0)).bind fun t271 => (if t271 = true then (winchlaw21_BusHolds.j2 k x3 x5 x7 x73 t252 x71 x72 x73 false x236000 x236001 x236002 x236003 x236004 x247000 ((rd_T40 x71 x73).f0) ((rd_T40 x71 x73).f1) ((rd_T40 x71 x73).f2) ((rd_T40 x71 x73).f3)) else (none))) else (none))))) else (none))) else (none)) else (none)) else (winchlaw21_BusHolds.l2 k x7 (x7.length : Int) 0 x236000 x236001 x236002 x236003 x236004 x247000)
def winchlaw21_BusHolds.j2 : Nat → List (S43) → List (S47) → List Bool → Int → List Int → List (S40) → Int → Int → Bool → List (S40) → List (S43) → Im → List (List Int) → List (S80) → Im → Int → List Int → List Int → Int → Option (Bool)
  | 0, _, _, _, _, _, _, _, _, _, _, _, _, _, _, _, _, _, _, _ => none
  | k + 1, x3, x5, x7, x8, x10, x71, x72, x73, x137, x236000, x236001, x236002, x236003, x236004, x247000, x252000, x252001, x252002, x252003 => if x137 = true then (none) else (if 0 ≤ x8 then (if x8 < (x5.length : Int) then (if ((rd_T47 x5 x8).f0) < 1 then (none) else (if ((rd_T47 x5 x8).f0) > 3 then (none) else (if (rd_T47 x5 x8).f1 = true then (if x8 < (x3.length : Int) then (if ((rd_T43 x3 x8).f1) = 0 then (if ((rd_T43 x3 x8).f2) = 0 then ((winchlaw21_ints.f k ((rd_T43 x3 x8).f0) x10).bind fun t278 => (if t278 = true then (if x8 < (x236003.length : Int) then ((winchlaw21_ints.f k ((rd_T43 x3 x8).f3) (rd_L1 x236003 x8)).bind fun t281 => (if t281 = true then (if ((rd_T47 x5 x8).f1 = true) then (winchlaw21_BusHolds.j3 k x3 x5 x7 x71 x72 x73 false x236000 x236001 x236002 x236003 x236004 x247000 x252000 x252001 x252002 x252003) else (winchlaw21_BusHolds.j3 k x3 x5 x7 x71 x72 x73 (((rd_T43 x3 x8).f2) == 0) x236000 x236001 x236002 x236003 x236004 x247000 x252000 x252001 x252002 x252003)) else (none))) else (none)) else (none))) else (none)) else (none)) else (none)) else (if ((rd_T47 x5 x8).f1 = true) then (winchlaw21_BusHolds.j3 k x3 x5 x7 x71 x72 x73 false x236000 x236001 x236002 x236003 x236004 x247000 x252000 x252001 x252002 x252003) else (if x8 < (x3.length : Int) then (winchlaw21_BusHolds.j3 k x3 x5 x7 x71 x72 x73 (((rd_T43 x3 x8).f2) == 0) x236000 x236001 x236002 x236003 x236004 x247000 x252000 x252001 x252002 x252003) else (none)))))) else (none)) else (none))
def winchlaw21_BusHolds.j3 : Nat → List (S43) → List (S47) → List Bool → List (S40) → Int → Int → Bool → List (S40) → List (S43) → Im → List (List Int) → List (S80) → Im → Int → List Int → List Int → Int → Option (Bool)
  | 0, _, _, _, _, _, _, _, _, _, _, _, _, _, _, _, _, _ => none
  | k + 1, x3, x5, x7, x71, x72, x73, x214, x236000, x236001, x236002, x236003, x236004, x247000, x252000, x252001, x252002, x252003 => if x214 = true then (none) else (winchlaw21_BusHolds.l1 k x3 x5 x7 x71 x72 x73 x252001 (x252001.length : Int) 0 x236000 x236001 x236002 x236003 x236004 x247000)
def winchlaw21_BusHolds.l1 : Nat → List (S43) → List (S47) → List Bool → List (S40) → Int → Int → List Int → Int → Int → List (S40) → List (S43) → Im → List (List Int) → List (S80) → Im → Option (Bool)
  | 0, _, _, _, _, _, _, _, _, _, _, _, _, _, _, _ => none
  | k + 1, x3, x5, x7, x71, x72, x73, x216, x217, x218, x236000, x236001, x236002, x236003, x236004, x247000 => if x218 < x217 then (if 0 ≤ x218 then (if x218 < (x216.length : Int) then (if 0 ≤ (rd x216 x218) then (if (rd x216 x218) < (x7.length : Int) then (winchlaw21_BusHolds.l1 k x3 x5 (x7.set ((rd x216 x218) : Int).toNat true) x71 x72 x73 x216 x217 (wrap64 (x218 + 1)) x236000 x236001 x236002 x236003 x236004 x247000) else (none)) else (none)) else (none)) else (none)) else (winchlaw21_BusHolds.l0 k x3 x5 x7 x71 x72 (wrap64 (x73 + 1)) x236000 x236001 x236002 x236003 x236004 x247000)
def winchlaw21_BusHolds.l2 : Nat → List Bool → Int → Int → List (S40) → List (S43) → Im → List (List Int) → List (S80) → Im → Option (Bool)
  | 0, _, _, _, _, _, _, _, _, _ => none
  | k + 1, x7, x228, x229, x236000, x236001, x236002, x236003, x236004, x247000 => if x229 < x228 then (if 0 ≤ x229 then (if x229 < (x7.length : Int) then (if rdOf false x7 x229 = true then (winchlaw21_BusHolds.l2 k x7 x228 (wrap64 (x229 + 1)) x236000 x236001 x236002 x236003 x236004 x247000) else (if x229 < 64 then (if (Im.rd x247000 x229) = (Im.rd x236002 x229) then (winchlaw21_BusHolds.l2 k x7 x228 (wrap64 (x229 + 1)) x236000 x236001 x236002 x236003 x236004 x247000) else (none)) else (none))) else (none)) else (none)) else ((winchlaw21_awake.f k).bind fun t291 => (some t291))
end
def winchlaw21_BusHolds.f (k : Nat) (l0_0 : List (S40)) (l0_1 : List (S43)) (a0_2 : Im) (l0_3 : List (List Int)) (l0_4 : List (S80)) : Option (Bool) := (winchlaw21_formed.f k l0_0 l0_1 a0_2 l0_3 l0_4).bind fun t236 => (if t236 = true then ((bus_Cycle.f k l0_0 l0_1 a0_2 l0_3 l0_4).bind fun bt238 => (if bt238.2.2.2 = 0 then (if (bt238.1.length : Int) = (l0_0.length : Int) then (if (bt238.2.2.1.length : Int) = (l0_0.length : Int) then (if ((((Im.part bt238.2.1 64) == (Im.part a0_2 64))) = true) then (winchlaw21_BusHolds.j0 k bt238.1 bt238.2.2.1 (!(((Im.part bt238.2.1 128) == (Im.part a0_2 128)))) l0_0 l0_1 a0_2 l0_3 l0_4 bt238.2.1) else (none)) else (none)) else (none)) else (none))) else ((winchlaw21_awake.f k).bind fun t237 => (some t237)))
def winchlaw21_BusHolds.T11 : Bool × List (List Nat × List Nat) := (true, [([], []), ([], []), ([0, 1], [0, 1]), ([2], [2]), ([3], [3]), ([], []), ([5], [5]), ([4, 6], [4, 6]), ([7, 0, 1, 2, 3, 4, 5, 6, 7], [7])])
def winchlaw21_BusHolds.B11 : List Nat := [0, 0, 3, 7, 15, 0, 32, 127, 255]
theorem winchlaw21_BusHolds.tab11 : rtab .any (opsOf Try.f3 11) = winchlaw21_BusHolds.T11 := by kernel_rfl
theorem winchlaw21_BusHolds.bits11 : waitsOk winchlaw21_BusHolds.T11.2 winchlaw21_BusHolds.B11 = true := by kernel_rfl
def winchlaw21_BusHolds.T12 : Bool × List (List Nat × List Nat) := (true, [([], []), ([], []), ([0, 1], [0, 1]), ([2], [2]), ([3], [3]), ([], []), ([4, 5], [4, 5]), ([6], [6]), ([7, 6], [7]), ([8], [8]), ([9, 8, 8], [8, 9]), ([10], [10]), ([10], [10]), ([11, 12, 10], [10, 11, 12]), ([13, 10], [10, 13]), ([14, 10], [10, 14]), ([15, 10, 10], [10, 15]), ([10, 16, 8], [8, 10, 16]), ([17, 8], [8, 17]), ([8, 18], [8, 18]), ([19, 16], [19]), ([20], [20]), ([20], [20]), ([21, 22, 20], [20, 21, 22]), ([23, 20], [20, 23]), ([24, 20], [20, 24]), ([20], [20]), ([26, 20], [20, 26]), ([20], [20]), ([27, 28, 20], [20, 27, 28]), ([29, 20], [20, 29]), ([30, 20], [20, 30]), ([25, 31, 20, 20], [20, 25, 31]), ([32, 20], [20, 32]), ([20, 33], [20, 33]), ([34, 32], [34]), ([35], [35]), ([36, 35, 35], [35, 36]), ([37], [37]), ([37], [37]), ([38, 39, 37], [37, 38, 39]), ([40, 37], [37, 40]), ([41, 37], [37, 41]), ([42, 37, 37], [37, 42]), ([43, 37], [37, 43]), ([37, 44, 35], [35, 37, 44]), ([35, 45], [35, 45])])
def winchlaw21_BusHolds.B12 : List Nat := [0, 0, 3, 7, 15, 0, 63, 127, 255, 511, 1023, 2047, 2047, 8191, 16383, 32767, 65535, 131071, 262143, 524287, 1048575, 2097151, 2097151, 8388607, 16777215, 33554431, 2097151, 69206015, 2097151, 471859199, 1008730111, 2082471935, 4294967295, 8589934591, 17179869183, 34359738367, 68719476735, 137438953471, 274877906943, 274877906943, 1099511627775, 2199023255551, 4398046511103, 8796093022207, 17592186044415, 35184372088831, 70368744177663]
theorem winchlaw21_BusHolds.tab12 : rtab .any (opsOf Try.f3 12) = winchlaw21_BusHolds.T12 := by kernel_rfl
theorem winchlaw21_BusHolds.bits12 : waitsOk winchlaw21_BusHolds.T12.2 winchlaw21_BusHolds.B12 = true := by kernel_rfl
def winchlaw21_BusHolds.T14 : Bool × List (List Nat × List Nat) := (true, [([], []), ([], []), ([0, 1], [0, 1]), ([2], [2]), ([3], [3]), ([4], [4]), ([5], [5]), ([6], [6]), ([6], [6]), ([7, 8, 6], [6, 7, 8]), ([9, 6], [6, 9]), ([10, 6], [6, 10]), ([11, 6], [6, 11]), ([6, 12], [6, 12]), ([13, 6], [13]), ([14], [14]), ([14], [14]), ([15, 16, 14], [14, 15, 16]), ([17, 14], [14, 17]), ([18, 14], [14, 18]), ([19, 14, 14], [14, 19]), ([20], [20]), ([20], [20]), ([21, 22, 20], [20, 21, 22]), ([23, 20], [20, 23]), ([24, 20], [20, 24]), ([25, 20], [20, 25]), ([26, 20, 20], [20, 26]), ([27], [27]), ([27], [27]), ([28, 29, 27], [27, 28, 29]), ([30, 27], [27, 30]), ([31, 27], [27, 31]), ([32, 27], [27, 32]), ([27, 33, 20], [20, 27, 33]), ([34, 27, 20], [20, 34]), ([35], [35]), ([35], [35]), ([36, 37, 35], [35, 36, 37]), ([38, 35], [35, 38]), ([39, 35], [35, 39]), ([35], [35]), ([40, 41, 35, 35], [35, 40, 41]), ([42, 35], [35, 42]), ([35, 43, 20], [20, 35, 43]), ([44, 42, 20], [20, 44]), ([45], [45]), ([45], [45]), ([46, 47, 45], [45, 46, 47]), ([48, 45], [45, 48]), ([49, 45], [45, 49]), ([45], [45]), ([51, 45], [45, 51]), ([45], [45]), ([52, 53, 45], [45, 52, 53]), ([54, 45], [45, 54]), ([50, 55, 45, 45], [45, 50, 55]), ([56, 45], [45, 56]), ([45, 57, 20], [20, 45, 57]), ([20, 58, 14], [14, 20, 58]), ([14, 59], [14, 59]), ([60, 56], [60]), ([61], [61]), ([61], [61]), ([62, 63, 61], [61, 62, 63]), ([64, 61], [61, 64]), ([65, 61], [61, 65]), ([66, 61], [61, 66]), ([67, 61, 61], [61, 67]), ([68], [68]), ([68], [68]), ([69, 70, 68], [68, 69, 70]), ([71, 68], [68, 71]), ([72, 68], [68, 72]), ([73, 68], [68, 73]), ([68, 74, 61], [61, 68, 74]), ([61, 75], [61, 75])])
def winchlaw21_BusHolds.B14 : List Nat := [0, 0, 3, 7, 15, 31, 63, 127, 127, 511, 1023, 2047, 4095, 8191, 16383, 32767, 32767, 131071, 262143, 524287, 1048575, 2097151, 2097151, 8388607, 16777215, 33554431, 67108863, 134217727, 268435455, 268435455, 1073741823, 2147483647, 4294967295, 8589934591, 17179869183, 34359738367, 68719476735, 68719476735, 274877906943, 549755813887, 1099511627775, 68719476735, 4398046511103, 8796093022207, 17592186044415, 35184372088831, 70368744177663, 70368744177663, 281474976710655, 562949953421311, 1125899906842623, 70368744177663, 2322168557862911, 70368744177663, 15832967439974399, 33847365949456383, 72057594037927935, 144115188075855871, 288230376151711743, 576460752303423487, 1152921504606846975, 2305843009213693951, 4611686018427387903, 4611686018427387903, 18446744073709551615, 36893488147419103231, 73786976294838206463, 147573952589676412927, 295147905179352825855, 590295810358705651711, 590295810358705651711, 2361183241434822606847, 4722366482869645213695, 9444732965739290427391, 18889465931478580854783, 37778931862957161709567, 75557863725914323419135]
theorem winchlaw21_BusHolds.tab14 : rtab .any (opsOf Try.f3 14) = winchlaw21_BusHolds.T14 := by kernel_rfl
theorem winchlaw21_BusHolds.bits14 : waitsOk winchlaw21_BusHolds.T14.2 winchlaw21_BusHolds.B14 = true := by kernel_rfl
def winchlaw21_BusHolds.T25 : Bool × List (List Nat × List Nat) := (true, [([], []), ([], []), ([0, 1], [0, 1]), ([2], [2]), ([3], [3]), ([4], [4]), ([5], [5]), ([5], [5]), ([7, 6, 5], [5, 6, 7]), ([8, 5], [5, 8]), ([5], [5]), ([5], [5]), ([11, 5], [5, 11]), ([12, 10, 5], [5, 10, 12]), ([13, 5], [5, 13]), ([9, 14, 5], [5, 9, 14]), ([5, 15], [5, 15])])
def winchlaw21_BusHolds.B25 : List Nat := [0, 0, 3, 7, 15, 31, 63, 63, 255, 511, 63, 63, 2111, 7231, 15423, 32767, 65535]
theorem winchlaw21_BusHolds.tab25 : rtab .any (opsOf Try.f3 25) = winchlaw21_BusHolds.T25 := by kernel_rfl
theorem winchlaw21_BusHolds.bits25 : waitsOk winchlaw21_BusHolds.T25.2 winchlaw21_BusHolds.B25 = true := by kernel_rfl
set_option maxHeartbeats 8000000 in
set_option maxRecDepth 100000 in
theorem winchlaw21_BusHolds.calls (k : Nat) (A0_0 : Option Addr) (c0_0 : Nat) (l0_0 : List (S40)) (A0_1 : Option Addr) (c0_1 : Nat) (l0_1 : List (S43)) (a0_2 : Im) (A0_3 : Option Addr) (c0_3 : Nat) (l0_3 : List (List Int)) (A0_4 : Option Addr) (c0_4 : Nat) (l0_4 : List (S80)) (r : Bool) (w : World) (hr0_0 : Kd.C k40 w A0_0 l0_0.length l0_0) (hc0_0 : l0_0.length ≤ c0_0) (hr0_1 : Kd.C k43 w A0_1 l0_1.length l0_1) (hc0_1 : l0_1.length ≤ c0_1) (hr0_3 : Kd.C (Kd.slice 3 (Kd.int .i64)) w A0_3 l0_3.length l0_3) (hc0_3 : l0_3.length ≤ c0_3) (hr0_4 : Kd.C k80 w A0_4 l0_4.length l0_4) (hc0_4 : l0_4.length ≤ c0_4) (h : winchlaw21_BusHolds.f k l0_0 l0_1 a0_2 l0_3 l0_4 = some r) :
    Calls Try.prog 3 #[.agg (#[.slice A0_0 l0_0.length c0_0, .slice A0_1 l0_1.length c0_1] ++ ((ims a0_2) ++ #[.slice A0_3 l0_3.length c0_3, .slice A0_4 l0_4.length c0_4]))] w fun e w' => e = .returned (.bool r) ∧ Below w.heap.size w w' := by
  have hu30 := Try.underlying30
  have hu40 := Try.underlying40
  have HR0_0 := Aside0.mk hr0_0
  have HC0_0 := Aside0.mk hc0_0
  clear hr0_0 hc0_0
  have HR0_1 := Aside0.mk hr0_1
  have HC0_1 := Aside0.mk hc0_1
  clear hr0_1 hc0_1
  have HR0_3 := Aside0.mk hr0_3
  have HC0_3 := Aside0.mk hc0_3
  clear hr0_3 hc0_3
  have HR0_4 := Aside0.mk hr0_4
  have HC0_4 := Aside0.mk hc0_4
  clear hr0_4 hc0_4
  have HB := Aside0.mk (Below.refl w.heap.size w)
  have H : ((winchlaw21_formed.f k l0_0 l0_1 a0_2 l0_3 l0_4).bind fun t236 => (if t236 = true then ((bus_Cycle.f k l0_0 l0_1 a0_2 l0_3 l0_4).bind fun bt238 => (if bt238.2.2.2 = 0 then (if (bt238.1.length : Int) = (l0_0.length : Int) then (if (bt238.2.2.1.length : Int) = (l0_0.length : Int) then (if ((((Im.part bt238.2.1 64) == (Im.part a0_2 64))) = true) then (winchlaw21_BusHolds.j0 k bt238.1 bt238.2.2.1 (!(((Im.part bt238.2.1 128) == (Im.part a0_2 128)))) l0_0 l0_1 a0_2 l0_3 l0_4 bt238.2.1) else (none)) else (none)) else (none)) else (none))) else ((winchlaw21_awake.f k).bind fun t237 => (some t237)))) = some r := h
  clear h
  replace H := Option.bind_eq_some_iff.mp H
  obtain ⟨t236, A20, H⟩ := H
  replace H : (if t236 = true then ((bus_Cycle.f k l0_0 l0_1 a0_2 l0_3 l0_4).bind fun bt238 => (if bt238.2.2.2 = 0 then (if (bt238.1.length : Int) = (l0_0.length : Int) then (if (bt238.2.2.1.length : Int) = (l0_0.length : Int) then (if ((((Im.part bt238.2.1 64) == (Im.part a0_2 64))) = true) then (winchlaw21_BusHolds.j0 k bt238.1 bt238.2.2.1 (!(((Im.part bt238.2.1 128) == (Im.part a0_2 128)))) l0_0 l0_1 a0_2 l0_3 l0_4 bt238.2.1) else (none)) else (none)) else (none)) else (none))) else ((winchlaw21_awake.f k).bind fun t237 => (some t237))) = some r := H
  have A2 := Aside0.mk A20
  clear A20
  by_cases c3 : t236 = true
  rotate_left
  · replace c3 := Bool.eq_false_iff.mpr c3
    subst c3
    have H1 : ((winchlaw21_awake.f k).bind fun t237 => (some t237)) = some r := by rw [if_neg (show ¬ (false = true) by decide)] at H; exact H
    clear H
    have H := H1
    clear H1
    replace H := Option.bind_eq_some_iff.mp H
    obtain ⟨t237, A1190, H⟩ := H
    replace H : (some t237) = some r := H
    have A119 := Aside0.mk A1190
    clear A1190
    obtain rfl := Option.some.inj H
    go_enter Try.func3, Try.ntmps3
    go_wp2_with (first | ((with_reducible refine gate_dst (N := 1) rfl ?_); (try (refine gate_guard (by rfl) ?_; dsimp only)); refine box_event ?hg (N := 1) ?hd (cs := (#[.slice A0_0 l0_0.length c0_0, .slice A0_1 l0_1.length c0_1] ++ ((ims a0_2) ++ #[.slice A0_3 l0_3.length c0_3, .slice A0_4 l0_4.length c0_4]))) (t := 30) ?hr ?_; (case hd => rfl); (case hg => rfl); (case hr => first | (refine im_boxRun ?_ ?_ <;> rfl) | (go_simp; done) | (go_simp; rfl)); intro gb235 hg w120 hbox hb; have BK235 := Aside0.mk (hbox); have GW235 := bs HB hg; replace HB := bst HB hb; have GE235 := GW235; clear hb hbox hg) | ((with_reducible refine gate_dst (N := 15) rfl ?_); (try (refine gate_guard (by rfl) ?_; dsimp only)); refine wpList_load_row (by rfl) 30 _ rfl gb235 (by first | rfl | (go_simp; done)) 30 (#[.slice A0_0 l0_0.length c0_0, .slice A0_1 l0_1.length c0_1] ++ ((ims a0_2) ++ #[.slice A0_3 l0_3.length c0_3, .slice A0_4 l0_4.length c0_4])) (0, 0) _ (xb BK235.out) Try.underlying30 rfl (im_sz _ _ _ (by kernel_rfl)) ?_) | ((with_reducible refine gate_callee (f := 10) rfl ?_); refine goesL_ (some 16) rfl rfl Try.func10 (by kernel_rfl) rfl #[.agg (#[.slice A0_0 l0_0.length c0_0, .slice A0_1 l0_1.length c0_1] ++ ((ims a0_2) ++ #[.slice A0_3 l0_3.length c0_3, .slice A0_4 l0_4.length c0_4]))] rfl xl ?_; (with_reducible refine (winchlaw21_formed.calls k _ _ l0_0 _ _ l0_1 a0_2 _ _ l0_3 _ _ l0_4 false _ ?side1 ?side2 ?side3 ?side4 ?side5 ?side6 ?side7 ?side8 A2.out).mono ?_); (case side1 => exact xC (Kd.C_below HR0_0.out HB.out)); (case side2 => exact HC0_0.out); (case side3 => exact xC (Kd.C_below HR0_1.out HB.out)); (case side4 => exact HC0_1.out); (case side5 => exact xC (Kd.C_below HR0_3.out HB.out)); (case side6 => exact HC0_3.out); (case side7 => exact xC (Kd.C_below HR0_4.out HB.out)); (case side8 => exact HC0_4.out); rintro e w121 ⟨rfl, hb⟩; refine ⟨_, rfl, ?_⟩; replace BK235 := Aside0.mk (blk_below (g := gb235) (o := .cells (#[.slice A0_0 l0_0.length c0_0, .slice A0_1 l0_1.length c0_1] ++ ((ims a0_2) ++ #[.slice A0_3 l0_3.length c0_3, .slice A0_4 l0_4.length c0_4])) 30 (0, 0)) (xb BK235.out) hb); replace HB := bst HB hb; (try clear hb); (try clear hb2); (try clear hk); (try clear hi)) | ((with_reducible refine gate_callee (f := 11) rfl ?_); refine goesL_ (some 18) rfl rfl Try.func11 (by kernel_rfl) rfl #[] rfl xl ?_; (with_reducible refine (winchlaw21_awake.calls k  t237 _ A119.out).mono ?_); rintro e w122 ⟨rfl, hb⟩; refine ⟨_, rfl, ?_⟩; replace BK235 := Aside0.mk (blk_below (g := gb235) (o := .cells (#[.slice A0_0 l0_0.length c0_0, .slice A0_1 l0_1.length c0_1] ++ ((ims a0_2) ++ #[.slice A0_3 l0_3.length c0_3, .slice A0_4 l0_4.length c0_4])) 30 (0, 0)) (xb BK235.out) hb); replace HB := bst HB hb; (try clear hb); (try clear hb2); (try clear hk); (try clear hi)))
    go_ret
    exact ⟨xq, by exact xh HB.out⟩
  subst c3
  have H1 : ((bus_Cycle.f k l0_0 l0_1 a0_2 l0_3 l0_4).bind fun bt238 => (if bt238.2.2.2 = 0 then (if (bt238.1.length : Int) = (l0_0.length : Int) then (if (bt238.2.2.1.length : Int) = (l0_0.length : Int) then (if ((((Im.part bt238.2.1 64) == (Im.part a0_2 64))) = true) then (winchlaw21_BusHolds.j0 k bt238.1 bt238.2.2.1 (!(((Im.part bt238.2.1 128) == (Im.part a0_2 128)))) l0_0 l0_1 a0_2 l0_3 l0_4 bt238.2.1) else (none)) else (none)) else (none)) else (none))) = some r := by rw [if_pos rfl] at H; exact H
  clear H
  have H := H1
  clear H1
  replace H := Option.bind_eq_some_iff.mp H
  obtain ⟨⟨t238, t239, t240, t241⟩, A40, H⟩ := H
  replace H : (if t241 = 0 then (if (t238.length : Int) = (l0_0.length : Int) then (if (t240.length : Int) = (l0_0.length : Int) then (if ((((Im.part t239 64) == (Im.part a0_2 64))) = true) then (winchlaw21_BusHolds.j0 k t238 t240 (!(((Im.part t239 128) == (Im.part a0_2 128)))) l0_0 l0_1 a0_2 l0_3 l0_4 t239) else (none)) else (none)) else (none)) else (none)) = some r := H
  have A4 := Aside0.mk A40
  clear A40
  have HC5 := Aside0.mk H
  clear H
  go_enter Try.func3, Try.ntmps3
  go_upto_region 4 with (first | ((with_reducible refine gate_dst (N := 1) rfl ?_); (try (refine gate_guard (by rfl) ?_; dsimp only)); refine box_event ?hg (N := 1) ?hd (cs := (#[.slice A0_0 l0_0.length c0_0, .slice A0_1 l0_1.length c0_1] ++ ((ims a0_2) ++ #[.slice A0_3 l0_3.length c0_3, .slice A0_4 l0_4.length c0_4]))) (t := 30) ?hr ?_; (case hd => rfl); (case hg => rfl); (case hr => first | (refine im_boxRun ?_ ?_ <;> rfl) | (go_simp; done) | (go_simp; rfl)); intro gb235 hg w6 hbox hb; have BK235 := Aside0.mk (hbox); have GW235 := bs HB hg; replace HB := bst HB hb; have GE235 := GW235; clear hb hbox hg) | ((with_reducible refine gate_dst (N := 15) rfl ?_); (try (refine gate_guard (by rfl) ?_; dsimp only)); refine wpList_load_row (by rfl) 30 _ rfl gb235 (by first | rfl | (go_simp; done)) 30 (#[.slice A0_0 l0_0.length c0_0, .slice A0_1 l0_1.length c0_1] ++ ((ims a0_2) ++ #[.slice A0_3 l0_3.length c0_3, .slice A0_4 l0_4.length c0_4])) (0, 0) _ (xb BK235.out) Try.underlying30 rfl (im_sz _ _ _ (by kernel_rfl)) ?_) | ((with_reducible refine gate_callee (f := 10) rfl ?_); refine goesL_ (some 16) rfl rfl Try.func10 (by kernel_rfl) rfl #[.agg (#[.slice A0_0 l0_0.length c0_0, .slice A0_1 l0_1.length c0_1] ++ ((ims a0_2) ++ #[.slice A0_3 l0_3.length c0_3, .slice A0_4 l0_4.length c0_4]))] rfl xl ?_; (with_reducible refine (winchlaw21_formed.calls k _ _ l0_0 _ _ l0_1 a0_2 _ _ l0_3 _ _ l0_4 true _ ?side1 ?side2 ?side3 ?side4 ?side5 ?side6 ?side7 ?side8 A2.out).mono ?_); (case side1 => exact xC (Kd.C_below HR0_0.out HB.out)); (case side2 => exact HC0_0.out); (case side3 => exact xC (Kd.C_below HR0_1.out HB.out)); (case side4 => exact HC0_1.out); (case side5 => exact xC (Kd.C_below HR0_3.out HB.out)); (case side6 => exact HC0_3.out); (case side7 => exact xC (Kd.C_below HR0_4.out HB.out)); (case side8 => exact HC0_4.out); rintro e w7 ⟨rfl, hb⟩; refine ⟨_, rfl, ?_⟩; replace BK235 := Aside0.mk (blk_below (g := gb235) (o := .cells (#[.slice A0_0 l0_0.length c0_0, .slice A0_1 l0_1.length c0_1] ++ ((ims a0_2) ++ #[.slice A0_3 l0_3.length c0_3, .slice A0_4 l0_4.length c0_4])) 30 (0, 0)) (xb BK235.out) hb); replace HB := bst HB hb; (try clear hb); (try clear hb2); (try clear hk); (try clear hi); have z8_0 : w7.cell? ⟨gb235, 0, none⟩ = some (.slice A0_0 l0_0.length c0_0) := (blk_cell BK235.out 0).trans (im_ahead _ _ _ rfl); have z8_1 : w7.cell? ⟨gb235, 1, none⟩ = some (.slice A0_1 l0_1.length c0_1) := (blk_cell BK235.out 1).trans (im_ahead _ _ _ rfl); have z8_3 : w7.cell? ⟨gb235, 194, none⟩ = some (.slice A0_3 l0_3.length c0_3) := (blk_cell BK235.out 194).trans (im_behind _ _ _ 0 rfl rfl); have z8_4 : w7.cell? ⟨gb235, 195, none⟩ = some (.slice A0_4 l0_4.length c0_4) := (blk_cell BK235.out 195).trans (im_behind _ _ _ 1 rfl rfl); have Z8_0 := blk_frozen BK235.out 0; have Z8_1 := blk_frozen BK235.out 1; have Z8_3 := blk_frozen BK235.out 194; have Z8_4 := blk_frozen BK235.out 195) | ((with_reducible refine gate_dst (N := 25) rfl ?_); (try (refine gate_guard (by rfl) ?_; dsimp only)); refine im_load (g := gb235) (off := 2) (m := a0_2) rfl rfl (by first | rfl | (go_simp; done)) ((imAt_mid #[.slice A0_0 l0_0.length c0_0, .slice A0_1 l0_1.length c0_1] #[.slice A0_3 l0_3.length c0_3, .slice A0_4 l0_4.length c0_4] (T := 30) (fr := (0, 0)) rfl (xb BK235.out))) ?_) | ((with_reducible refine gate_callee (f := 12) rfl ?_); refine goesL_ (some 30) rfl rfl Try.func12 (by kernel_rfl) rfl #[.slice A0_0 l0_0.length c0_0, .slice A0_1 l0_1.length c0_1, .agg (ims a0_2), .slice A0_3 l0_3.length c0_3, .slice A0_4 l0_4.length c0_4] rfl xl ?_; (with_reducible refine (bus_Cycle.calls k _ _ l0_0 _ _ l0_1 a0_2 _ _ l0_3 _ _ l0_4 t238 t239 t240 t241 _ ?side1 ?side2 ?side3 ?side4 ?side5 ?side6 ?side7 ?side8 A4.out).mono ?_); (case side1 => exact xC (Kd.C_below HR0_0.out HB.out)); (case side2 => exact HC0_0.out); (case side3 => exact xC (Kd.C_below HR0_1.out HB.out)); (case side4 => exact HC0_1.out); (case side5 => exact xC (Kd.C_below HR0_3.out HB.out)); (case side6 => exact HC0_3.out); (case side7 => exact xC (Kd.C_below HR0_4.out HB.out)); (case side8 => exact HC0_4.out); rintro e w9 ⟨v242, v244, rfl, ho0, ho1, hb⟩; refine ⟨_, rfl, ?_⟩; have HO243 := Aside0.mk (Kd.S_lower ho0 (below_size (xh HB.out))); have HO245 := Aside0.mk (Kd.R_lower ho1 (below_size (xh HB.out))); replace BK235 := Aside0.mk (blk_below (g := gb235) (o := .cells (#[.slice A0_0 l0_0.length c0_0, .slice A0_1 l0_1.length c0_1] ++ ((ims a0_2) ++ #[.slice A0_3 l0_3.length c0_3, .slice A0_4 l0_4.length c0_4])) 30 (0, 0)) (xb BK235.out) hb); replace HB := bst HB hb; (try clear hb); (try clear hb2); (try clear hk); (try clear hi); (try clear ho0); (try clear ho1)) | ((with_reducible refine gate_dst (N := 4) rfl ?_); (try (refine gate_guard (by rfl) ?_; dsimp only)); refine box_event ?hg (N := 4) ?hd (cs := (ims Im.zero)) (t := 26) ?hr ?_; (case hd => rfl); (case hg => rfl); (case hr => first | exact im_allocRun rfl | (go_simp; done) | (go_simp; rfl)); intro gb246 hg w10 hbox hb; have NB235_246 := Aside0.mk ((by rw [hg]; exact Nat.ne_of_lt (blk_lt (g := gb235) (o := .cells (#[.slice A0_0 l0_0.length c0_0, .slice A0_1 l0_1.length c0_1] ++ ((ims a0_2) ++ #[.slice A0_3 l0_3.length c0_3, .slice A0_4 l0_4.length c0_4])) 30 (0, 0)) (xb BK235.out)) : gb235 ≠ gb246)); have NB246_235 := Aside0.mk ((by rw [hg]; exact Nat.ne_of_gt (blk_lt (g := gb235) (o := .cells (#[.slice A0_0 l0_0.length c0_0, .slice A0_1 l0_1.length c0_1] ++ ((ims a0_2) ++ #[.slice A0_3 l0_3.length c0_3, .slice A0_4 l0_4.length c0_4])) 30 (0, 0)) (xb BK235.out)) : gb246 ≠ gb235)); replace HO243 := Aside0.mk (Kd.S_below (by (with_reducible repeat (first | apply Kd.S_alloc | apply Kd.S_drewN | apply Kd.S_drew)); exact HO243.out) hb); replace HO245 := rb HO245 hb; replace BK235 := Aside0.mk (blk_below (g := gb235) (o := .cells (#[.slice A0_0 l0_0.length c0_0, .slice A0_1 l0_1.length c0_1] ++ ((ims a0_2) ++ #[.slice A0_3 l0_3.length c0_3, .slice A0_4 l0_4.length c0_4])) 30 (0, 0)) (xb BK235.out) hb); have BK246 := Aside0.mk (hbox); have GW246 := bs HB hg; replace HB := bst HB hb; have GE246 := GW246; clear hb hbox hg) | ((with_reducible refine gate_store (t := 26) (p := 4) rfl ?_); refine im_store (T := 26) (g := gb246) (m := Im.zero) (m' := t239) rfl rfl rfl (by first | rfl | (go_simp; done)) (by first | rfl | (go_simp; done)) (xb BK246.out) ?_; intro w11 hg hbox hbel; have n1_ := Aside0.mk (Kd.S_over' (v := .slice (some ⟨gb246, 0, none⟩) 0 0) (by (with_reducible repeat (first | apply Kd.S_alloc | apply Kd.S_drewN | apply Kd.S_drew)); exact HO243.out) (im_typed (xb BK246.out)) (by decide) hg); have n2_ := Aside0.mk (Kd.R_over' (v := .slice (some ⟨gb246, 0, none⟩) 0 0) (xr HO245.out) (im_typed (xb BK246.out)) (by decide) hg); replace BK235 := Aside0.mk (blk_grown (g := gb235) (o := .cells (#[.slice A0_0 l0_0.length c0_0, .slice A0_1 l0_1.length c0_1] ++ ((ims a0_2) ++ #[.slice A0_3 l0_3.length c0_3, .slice A0_4 l0_4.length c0_4])) 30 (0, 0)) (xb BK235.out) hg (fun e_ => NB235_246.out (Option.some.inj e_))); replace BK246 := Aside0.mk (hbox); replace HB := Aside0.mk (hbel _ _ (xh HB.out) GE246.out); clear HO243 HO245; have HO243 := n1_; have HO245 := n2_; clear n1_ n2_; clear hg hbox hbel))
  (try simp only [Act.put, List.setIfInBounds_toArray, List.set_cons_zero, List.set_cons_succ])
  go_cut [68] (fun v68 wc => ∃ (kq : Nat) (x68_4 : Bool), v68 = .bool x68_4 ∧ Aside0 (winchlaw21_BusHolds.j0 kq t238 t240 x68_4 l0_0 l0_1 a0_2 l0_3 l0_4 t239 = some r) ∧ Aside0 (kq ≤ k) ∧ Aside0 (Kd.S k43 43 wc w.heap.size (fun _ => True) v242 t238) ∧ Aside0 (Kd.R k47 47 wc w.heap.size (fun _ => True) v244 t240) ∧ Aside0 (wc.heap[gb235]? = some (.cells (#[(.slice A0_0 l0_0.length c0_0), (.slice A0_1 l0_1.length c0_1)] ++ ((ims a0_2) ++ #[(.slice A0_3 l0_3.length c0_3), (.slice A0_4 l0_4.length c0_4)])) 30 (0, 0))) ∧ Aside0 (wc.heap[gb246]? = some (.cells (ims t239) 26 (0, 0))) ∧ Aside0 (Below w.heap.size w wc))
  case first =>
    as_aux_lemma =>
    have H := HC5.out
    clear HC5
    by_cases c12 : t241 = 0
    rotate_left
    · rw [if_neg c12] at H
      exact absurd H (by simp)
    rw [if_pos c12] at H
    have c12b0 : (t241 == 0) = true := beq_iff_eq.mpr c12
    have c12b1 : (t241 != 0) = false := bne_eq_false_iff_eq.mpr c12
    clear c12
    (first | rw [c12b0] | (simp only [i64_w, i32_w]; rw [c12b0]) | skip)
    by_cases c13 : (t238.length : Int) = (l0_0.length : Int)
    rotate_left
    · rw [if_neg c13] at H
      exact absurd H (by simp)
    rw [if_pos c13] at H
    have c13b0 : ((t238.length : Int) == (l0_0.length : Int)) = true := beq_iff_eq.mpr c13
    have c13b1 : ((t238.length : Int) != (l0_0.length : Int)) = false := bne_eq_false_iff_eq.mpr c13
    have c13b2 : (t238.length == l0_0.length) = true := by first | simpa using c13 | (simp at c13 ⊢; omega)
    clear c13
    by_cases c14 : (t240.length : Int) = (l0_0.length : Int)
    rotate_left
    · rw [if_neg c14] at H
      exact absurd H (by simp)
    rw [if_pos c14] at H
    have c14b0 : ((t240.length : Int) == (l0_0.length : Int)) = true := beq_iff_eq.mpr c14
    have c14b1 : ((t240.length : Int) != (l0_0.length : Int)) = false := bne_eq_false_iff_eq.mpr c14
    have c14b2 : (t240.length == l0_0.length) = true := by first | simpa using c14 | (simp at c14 ⊢; omega)
    clear c14
    by_cases c15 : ((((Im.part t239 64) == (Im.part a0_2 64))) = true)
    rotate_left
    · rw [if_neg c15] at H
      exact absurd H (by simp)
    rw [if_pos c15] at H
    have c15b0 : (((Im.part t239 64) == (Im.part a0_2 64))) = true := c15
    clear c15
    have H' := Aside0.mk H
    clear H
    obtain ⟨Ao16, co16, eo16⟩ := Kd.S_slice HO243.out
    subst eo16
    have hnb17 := NB235_246.out
    have hnc17 := NB246_235.out
    have z18_0 : w11.cell? ⟨gb235, 0, none⟩ = some (.slice A0_0 l0_0.length c0_0) := (blk_cell BK235.out 0).trans (im_ahead _ _ _ rfl)
    have z18_1 : w11.cell? ⟨gb235, 1, none⟩ = some (.slice A0_1 l0_1.length c0_1) := (blk_cell BK235.out 1).trans (im_ahead _ _ _ rfl)
    have z18_3 : w11.cell? ⟨gb235, 194, none⟩ = some (.slice A0_3 l0_3.length c0_3) := (blk_cell BK235.out 194).trans (im_behind _ _ _ 0 rfl rfl)
    have z18_4 : w11.cell? ⟨gb235, 195, none⟩ = some (.slice A0_4 l0_4.length c0_4) := (blk_cell BK235.out 195).trans (im_behind _ _ _ 1 rfl rfl)
    have Z18_0 := blk_frozen BK235.out 0
    have Z18_1 := blk_frozen BK235.out 1
    have Z18_3 := blk_frozen BK235.out 194
    have Z18_4 := blk_frozen BK235.out 195
    obtain ⟨Ao19, co19, eo19⟩ := Kd.R_slice HO245.out
    subst eo19
    go_wp2_with (first | ((with_reducible refine gate_dst (N := 55) rfl ?_); (try (refine gate_guard (by rfl) ?_; dsimp only)); refine im_loadp (g := gb246) (off := 0) (m := t239) rfl rfl 64 (by decide) (k := 64) rfl (by first | rfl | (go_simp; done)) ((imAt_whole (T := 26) (fr := (0, 0)) (xb BK246.out))) ?_) | ((with_reducible refine gate_dst (N := 58) rfl ?_); (try (refine gate_guard (by rfl) ?_; dsimp only)); refine im_loadp (g := gb235) (off := 2) (m := a0_2) rfl rfl 64 (by decide) (k := 66) rfl (by first | rfl | (go_simp; done)) ((imAt_mid #[.slice A0_0 l0_0.length c0_0, .slice A0_1 l0_1.length c0_1] #[.slice A0_3 l0_3.length c0_3, .slice A0_4 l0_4.length c0_4] (T := 30) (fr := (0, 0)) rfl (xb BK235.out))) ?_) | ((with_reducible refine gate_dst (N := 59) rfl ?_); (try (refine gate_guard (by rfl) ?_; dsimp only)); refine im_neqp (m := t239) (b := 64) (m' := a0_2) (b' := 64) rfl rfl (by decide) (by decide) (by first | rfl | (go_simp; done)) (by first | rfl | (go_simp; done)) ?_) | ((with_reducible refine gate_dst (N := 63) rfl ?_); (try (refine gate_guard (by rfl) ?_; dsimp only)); refine im_loadp (g := gb246) (off := 0) (m := t239) rfl rfl 128 (by decide) (k := 128) rfl (by first | rfl | (go_simp; done)) ((imAt_whole (T := 26) (fr := (0, 0)) (xb BK246.out))) ?_) | ((with_reducible refine gate_dst (N := 66) rfl ?_); (try (refine gate_guard (by rfl) ?_; dsimp only)); refine im_loadp (g := gb235) (off := 2) (m := a0_2) rfl rfl 128 (by decide) (k := 130) rfl (by first | rfl | (go_simp; done)) ((imAt_mid #[.slice A0_0 l0_0.length c0_0, .slice A0_1 l0_1.length c0_1] #[.slice A0_3 l0_3.length c0_3, .slice A0_4 l0_4.length c0_4] (T := 30) (fr := (0, 0)) rfl (xb BK235.out))) ?_) | ((with_reducible refine gate_dst (N := 67) rfl ?_); (try (refine gate_guard (by rfl) ?_; dsimp only)); refine im_neqp (m := t239) (b := 128) (m' := a0_2) (b' := 128) rfl rfl (by decide) (by decide) (by first | rfl | (go_simp; done)) (by first | rfl | (go_simp; done)) ?_))
    go_meet
    case rel => exact ⟨_, (!(((Im.part t239 128) == (Im.part a0_2 128)))), (by first | rfl | (simp; done) | (simp [*]; done) | (refine congrArg (Value.int _) ?_; simp only [xw_u32, xw_u8, i64_w, i32_w]; unfold wrap64; omega)), H', ⟨by first | omega | exact Nat.le_refl _⟩, ⟨by (with_reducible repeat (first | apply Kd.S_alloc | apply Kd.S_drewN | apply Kd.S_drew)); exact HO243.out⟩, ⟨by refine xr ?_; exact HO245.out⟩, ⟨by refine xb ?_; exact BK235.out⟩, ⟨by refine xb ?_; exact BK246.out⟩, ⟨by exact xh HB.out⟩⟩
  case rest =>
    as_aux_lemma =>
    clear HC5
    try clear c1; try clear p2; try clear c3; try clear c10; try clear c12; try clear c12b0; try clear c12b1; try clear c13; try clear c13b0; try clear c13b1; try clear c13b2; try clear c14; try clear c14b0; try clear c14b1; try clear c14b2; try clear c15; try clear c15b0; try clear c17; try clear z18_0 z18_1 z18_3 z18_4 Z18_0 Z18_1 Z18_3 Z18_4; try clear z8_0 z8_1 z8_3 z8_4 Z8_0 Z8_1 Z8_3 Z8_4
    obtain ⟨kq, x68_4, rfl, HA, HJ4, HO_3, HO_5, BK235, BK246, HB⟩ := hcut
    rcases kq with _ | kj4
    · exact absurd HA.out (by simp [winchlaw21_BusHolds.j0])
    have H := HA.out
    clear HA
    simp only [winchlaw21_BusHolds.j0] at H
    by_cases c20 : x68_4 = true
    · subst c20
      have H1 : (none) = some r := by rw [if_pos rfl] at H; exact H
      clear H
      have H := H1
      clear H1
      exact absurd H (by simp)
    replace c20 := Bool.eq_false_iff.mpr c20
    subst c20
    have H1 : (if 64 ≤ 281474976710656 then (winchlaw21_BusHolds.l0 kj4 t238 t240 (List.replicate 64 false) l0_0 (l0_0.length : Int) 0 l0_0 l0_1 a0_2 l0_3 l0_4 t239) else (none)) = some r := by rw [if_neg (show ¬ (false = true) by decide)] at H; exact H
    clear H
    have H := H1
    clear H1
    by_cases c21 : 64 ≤ 281474976710656
    rotate_left
    · rw [if_neg c21] at H
      exact absurd H (by simp)
    rw [if_pos c21] at H
    have c21b0 := eq_true c21
    have c21b1 : decide (64 ≤ 281474976710656) = true := decide_eq_true c21
    clear c21
    obtain ⟨y247, hy247⟩ : ∃ y_ : List Bool, y_ = (List.replicate 64 false) := ⟨_, rfl⟩
    replace H : (winchlaw21_BusHolds.l0 kj4 t238 t240 y247 l0_0 (l0_0.length : Int) 0 l0_0 l0_1 a0_2 l0_3 l0_4 t239) = some r := by first | (rw [hy247]; with_reducible exact H) | (have H2_ := (Option.bind_some _ _).symm.trans H; rw [hy247]; with_reducible exact H2_) | (have H2_ := (Option.bind_some _ _).symm.trans H; with_reducible exact H2_) | with_reducible exact H | (rw [hy247]; exact H) | exact H
    have Ny247 := Aside0.mk hy247
    clear hy247
    have H' := Aside0.mk H
    clear H
    go_wp2_with (first | ((with_reducible refine gate_dst (N := 69) rfl ?_); (try (refine gate_guard (by rfl) ?_; dsimp only)); refine Kd.R_make Kd.bool _ 4 rfl (N := 69) rfl 37 _ _ rfl 64 rfl rfl Try.underlying37 (.bool false) 1 info4 rfl (by decide) (by omega) false (ok := fun _ => True) (okp := fun _ => True) rfl (fun _ hk => hk) trivial (by omega) (by omega) (Below.refl _ _) (Nat.le_refl _) ?_; intro v248 w22 ho23 hb hg_ hnew_; clear hg_ hnew_; (first | rw [← Ny247.out] at ho23 | (simp only [Int.reduceToNat] at ho23; rw [← Ny247.out] at ho23)); replace HO_3 := Aside0.mk (Kd.S_below (by (with_reducible repeat (first | apply Kd.S_alloc | apply Kd.S_drewN | apply Kd.S_drew)); exact HO_3.out) hb); replace HO_5 := rb HO_5 hb; have HO249 := Aside0.mk (Kd.R_lower ho23 (below_size (xh HB.out))); replace BK235 := Aside0.mk (blk_below (g := gb235) (o := .cells (#[.slice A0_0 l0_0.length c0_0, .slice A0_1 l0_1.length c0_1] ++ ((ims a0_2) ++ #[.slice A0_3 l0_3.length c0_3, .slice A0_4 l0_4.length c0_4])) 30 (0, 0)) (xb BK235.out) hb); replace BK246 := Aside0.mk (blk_below (g := gb246) (o := .cells (ims t239) 26 (0, 0)) (xb BK246.out) hb); replace HB := bst HB hb; clear hb ho23; have hnb24 := NB235_246.out; have hnc24 := NB246_235.out; have z25_0 : w22.cell? ⟨gb235, 0, none⟩ = some (.slice A0_0 l0_0.length c0_0) := (blk_cell BK235.out 0).trans (im_ahead _ _ _ rfl); have z25_1 : w22.cell? ⟨gb235, 1, none⟩ = some (.slice A0_1 l0_1.length c0_1) := (blk_cell BK235.out 1).trans (im_ahead _ _ _ rfl); have z25_3 : w22.cell? ⟨gb235, 194, none⟩ = some (.slice A0_3 l0_3.length c0_3) := (blk_cell BK235.out 194).trans (im_behind _ _ _ 0 rfl rfl); have z25_4 : w22.cell? ⟨gb235, 195, none⟩ = some (.slice A0_4 l0_4.length c0_4) := (blk_cell BK235.out 195).trans (im_behind _ _ _ 1 rfl rfl); have Z25_0 := blk_frozen BK235.out 0; have Z25_1 := blk_frozen BK235.out 1; have Z25_3 := blk_frozen BK235.out 194; have Z25_4 := blk_frozen BK235.out 195))
    go_loopg [73] kj4 (fun kq v73 w' => ∃ (x7_2 : List Bool) (x73_2 : Int), v73 = .int .i64 x73_2 ∧ Aside0 (winchlaw21_BusHolds.l0 kq t238 t240 x7_2 l0_0 (l0_0.length : Int) x73_2 l0_0 l0_1 a0_2 l0_3 l0_4 t239 = some r) ∧ Aside0 (kq ≤ kj4) ∧ Aside0 (Kd.S k43 43 w' w.heap.size (fun _ => True) v242 t238) ∧ Aside0 (Kd.R k47 47 w' w.heap.size (fun _ => True) v244 t240) ∧ Aside0 (Kd.R Kd.bool 4 w' w.heap.size (fun _ => True) v248 x7_2) ∧ Aside0 (w'.heap[gb235]? = some (.cells (#[(.slice A0_0 l0_0.length c0_0), (.slice A0_1 l0_1.length c0_1)] ++ ((ims a0_2) ++ #[(.slice A0_3 l0_3.length c0_3), (.slice A0_4 l0_4.length c0_4)])) 30 (0, 0))) ∧ Aside0 (w'.heap[gb246]? = some (.cells (ims t239) 26 (0, 0))) ∧ Aside0 (Below w.heap.size w w'))
    case atStart => exact ⟨(y247), (0), (by first | rfl | (simp; done) | (simp [*]; done) | (refine congrArg (Value.int _) ?_; simp only [xw_u32, xw_u8, i64_w, i32_w]; unfold wrap64; omega)), H', ⟨Nat.le_refl _⟩, ⟨by (with_reducible repeat (first | apply Kd.S_alloc | apply Kd.S_drewN | apply Kd.S_drew)); exact HO_3.out⟩, ⟨by refine xr ?_; exact HO_5.out⟩, ⟨by refine xr ?_; exact HO249.out⟩, ⟨by refine xb ?_; exact BK235.out⟩, ⟨by refine xb ?_; exact BK246.out⟩, ⟨by exact xh HB.out⟩⟩
    case round =>
      clear H'
      try clear c1; try clear c2; try clear p2; try clear c3; try clear c10; try clear c12; try clear c12b0; try clear c12b1; try clear c13; try clear c13b0; try clear c13b1; try clear c13b2; try clear c14; try clear c14b0; try clear c14b1; try clear c14b2; try clear c15; try clear c15b0; try clear c17; try clear c20; try clear c21; try clear c21b0; try clear c21b1; try clear c24; try clear z18_0 z18_1 z18_3 z18_4 Z18_0 Z18_1 Z18_3 Z18_4; try clear z25_0 z25_1 z25_3 z25_4 Z25_0 Z25_1 Z25_3 Z25_4; try clear z8_0 z8_1 z8_3 z8_4 Z8_0 Z8_1 Z8_3 Z8_4
      obtain ⟨x7_2, x73_2, rfl, HA, HK2, HO_3, HO_5, HO_7, BK235, BK246, HB⟩ := hrel
      rcases gk with _ | k2
      · exact absurd HA.out (by simp [winchlaw21_BusHolds.l0])
      have H := HA.out
      clear HA
      simp only [winchlaw21_BusHolds.l0] at H
      by_cases c26 : x73_2 < (l0_0.length : Int)
      rotate_left
      · rw [if_neg c26] at H
        have c26b0 : decide (x73_2 < (l0_0.length : Int)) = false := decide_eq_false c26
        clear c26
        have H' := Aside0.mk H
        clear H
        obtain ⟨Ao107, co107, eo107⟩ := Kd.R_slice HO_7.out
        subst eo107
        go_wp2
        go_loopg [229] k2 (fun kq v229 w' => ∃ (x229_3 : Int), v229 = .int .i64 x229_3 ∧ Aside0 (winchlaw21_BusHolds.l2 kq x7_2 (x7_2.length : Int) x229_3 l0_0 l0_1 a0_2 l0_3 l0_4 t239 = some r) ∧ Aside0 (kq ≤ k2) ∧ Aside0 (Kd.R Kd.bool 4 w' w.heap.size (fun _ => True) (.slice Ao107 x7_2.length co107) x7_2) ∧ Aside0 (w'.heap[gb235]? = some (.cells (#[(.slice A0_0 l0_0.length c0_0), (.slice A0_1 l0_1.length c0_1)] ++ ((ims a0_2) ++ #[(.slice A0_3 l0_3.length c0_3), (.slice A0_4 l0_4.length c0_4)])) 30 (0, 0))) ∧ Aside0 (w'.heap[gb246]? = some (.cells (ims t239) 26 (0, 0))) ∧ Aside0 (Below w.heap.size w w'))
        case atStart => exact ⟨(0), (by first | rfl | (simp; done) | (simp [*]; done) | (refine congrArg (Value.int _) ?_; simp only [xw_u32, xw_u8, i64_w, i32_w]; unfold wrap64; omega)), H', ⟨Nat.le_refl _⟩, ⟨by refine xr ?_; exact HO_7.out⟩, ⟨by refine xb ?_; exact BK235.out⟩, ⟨by refine xb ?_; exact BK246.out⟩, ⟨by exact xh HB.out⟩⟩
        case round =>
          clear H'
          try clear c1; try clear p1; try clear q1; try clear hx1; try clear hf1; try clear c2; try clear p2; try clear q2; try clear hx2; try clear c3; try clear c6; try clear p6; try clear q7; try clear c8; try clear c9; try clear c10; try clear p10; try clear q10; try clear hx10; try clear hf10; try clear c25; try clear c26; try clear c26b0; try clear c27; try clear p27; try clear q27; try clear hx27; try clear c28; try clear p28; try clear q28; try clear hx28; try clear c30; try clear p64; try clear c68; try clear c69; try clear q72; try clear c89; try clear c92; try clear c92b0; try clear c95; try clear c96; try clear c97; try clear c99; try clear c99b0; try clear c100; try clear c100b0; try clear c101; try clear c101b0; try clear c102; try clear c102b0; try clear c103; try clear c103b0; try clear p104; try clear q104; try clear hx104; try clear hf104; try clear z98_0 z98_1 z98_2 z98_3 Z98_0 Z98_1 Z98_2 Z98_3; try clear hx104_0; try clear hx272_0; try clear hx272_1; try clear hx273_0; try clear hx273_1; try clear hx274_0; try clear hx274_1; try clear hx284_0; try clear hx284_1; try clear hx285_0; try clear hx285_1; try clear hx285_2; try clear hx285_3; try clear hx286_0; try clear p272; try clear p273; try clear p274; try clear p284; try clear p285; try clear p286; try clear q272; try clear q273; try clear q274; try clear q284; try clear q285; try clear q286
          obtain ⟨x229_3, rfl, HA, HK3, HO_7, BK235, BK246, HB⟩ := hrel
          rcases gk with _ | k3
          · exact absurd HA.out (by simp [winchlaw21_BusHolds.l2])
          have H := HA.out
          clear HA
          simp only [winchlaw21_BusHolds.l2] at H
          by_cases c108 : x229_3 < (x7_2.length : Int)
          rotate_left
          · rw [if_neg c108] at H
            have c108b0 : decide (x229_3 < (x7_2.length : Int)) = false := decide_eq_false c108
            clear c108
            replace H := Option.bind_eq_some_iff.mp H
            obtain ⟨t291, A1170, H⟩ := H
            replace H : (some t291) = some r := H
            have A117 := Aside0.mk A1170
            clear A1170
            obtain rfl := Option.some.inj H
            go_wp2_with (first | ((with_reducible refine gate_callee (f := 11) rfl ?_); refine goesL_ (some 250) rfl rfl Try.func11 (by kernel_rfl) rfl #[] rfl xl ?_; (with_reducible refine (winchlaw21_awake.calls k3  t291 _ A117.out).mono ?_); rintro e w118 ⟨rfl, hb⟩; refine ⟨_, rfl, ?_⟩; replace HO_7 := rb HO_7 hb; replace BK235 := Aside0.mk (blk_below (g := gb235) (o := .cells (#[.slice A0_0 l0_0.length c0_0, .slice A0_1 l0_1.length c0_1] ++ ((ims a0_2) ++ #[.slice A0_3 l0_3.length c0_3, .slice A0_4 l0_4.length c0_4])) 30 (0, 0)) (xb BK235.out) hb); replace BK246 := Aside0.mk (blk_below (g := gb246) (o := .cells (ims t239) 26 (0, 0)) (xb BK246.out) hb); replace HB := bst HB hb; (try clear hb); (try clear hb2); (try clear hk); (try clear hi)))
            go_ret
            exact ⟨xq, by exact xh HB.out⟩
          rw [if_pos c108] at H
          have c108b0 : decide (x229_3 < (x7_2.length : Int)) = true := decide_eq_true c108
          clear c108
          by_cases c109 : 0 ≤ x229_3
          rotate_left
          · rw [if_neg c109] at H
            exact absurd H (by simp)
          rw [if_pos c109] at H
          have c109b0 : decide (0 ≤ x229_3) = true := decide_eq_true c109
          clear c109
          by_cases c110 : x229_3 < (x7_2.length : Int)
          rotate_left
          · rw [if_neg c110] at H
            exact absurd H (by simp)
          rw [if_pos c110] at H
          have c110b0 : decide (x229_3 < (x7_2.length : Int)) = true := decide_eq_true c110
          clear c110
          obtain ⟨bq111, hbq111⟩ : ∃ b_ : Bool, b_ = (rdOf false x7_2 x229_3) := ⟨_, rfl⟩
          replace H : (if bq111 = true then (winchlaw21_BusHolds.l2 k3 x7_2 (x7_2.length : Int) (wrap64 (x229_3 + 1)) l0_0 l0_1 a0_2 l0_3 l0_4 t239) else (if x229_3 < 64 then (if (Im.rd t239 x229_3) = (Im.rd a0_2 x229_3) then (winchlaw21_BusHolds.l2 k3 x7_2 (x7_2.length : Int) (wrap64 (x229_3 + 1)) l0_0 l0_1 a0_2 l0_3 l0_4 t239) else (none)) else (none))) = some r := by rw [← hbq111] at H; exact H
          have Nbq111 := Aside0.mk hbq111
          clear hbq111
          by_cases c112 : bq111 = true
          · subst c112
            have H1 : (winchlaw21_BusHolds.l2 k3 x7_2 (x7_2.length : Int) (wrap64 (x229_3 + 1)) l0_0 l0_1 a0_2 l0_3 l0_4 t239) = some r := by rw [if_pos rfl] at H; exact H
            clear H
            have H := H1
            clear H1
            have H' := Aside0.mk H
            clear H
            try go_wp2
            replace HO_7 := Aside0.mk (Kd.R_drew HO_7.out)
            replace BK235 := Aside0.mk (blk_drew BK235.out)
            replace BK246 := Aside0.mk (blk_drew BK246.out)
            replace HB := Aside0.mk (below_drew1 HB.out)
            have p288 : 0 ≤ (x229_3 : Int) := of_decide_eq_true xa
            have q288 : x229_3 < (x7_2.length : Int) := of_decide_eq_true xa
            obtain ⟨ad288, e288, hx288_0⟩ := Kd.at_bool (Kd.R_reads' HO_7.out).2.2 x229_3 p288 q288
            (try rw [← Nbq111.out] at hx288_0)
            cases e288
            replace p288 := eq_true p288
            replace q288 := eq_true q288
            refine start_ (n := 17) (S := fun w' => w'.cell? (ad288.add (x229_3).toNat) = some (.bool true)) (ds := []) (bz 17 0) (by kernel_rfl) rfl rfl (hx288_0) (fun hHeld => ?_); refine with_tabW winchlaw21_BusHolds.tab25 winchlaw21_BusHolds.bits25 (fun HT_ HW_ => ?_)
            generalize wr.drew = w113 at HO_7 BK235 BK246 HB hx288_0 hHeld ⊢
            refine pu1 0 (some 232) (bz 17 1) ?_
            refine pu1 1 (some 233) (bz 17 3) ?_
            refine pu1 2 (some 234) (bz 17 7) ?_
            refine ta1 3 (some 235) (bz 17 15) ?_
            refine pu1 4 (some 236) (bz 17 31) ?_
            refine pu1 5 (some 237) (bz 17 63) ?_
            refine pn1 6 (some 238) (bz 17 127) ?_
            refine pn1 7 (some 239) (bz 17 255) ?_
            refine pn1 8 (some 240) (bz 17 511) ?_
            refine pn1 9 (some 241) (bz 17 1023) ?_
            refine pn1 10 (some 242) (bz 17 2047) ?_
            refine pn1 11 (some 243) (bz 17 4095) ?_
            refine pn1 12 (some 244) (bz 17 8191) ?_
            refine pn1 13 (some 245) (bz 17 16383) ?_
            refine pn1 14 (some 246) (bz 17 32767) ?_
            refine pn1 15 (some 247) (bz 17 65535) ?_
            refine pu1 16 (some 248) (bz 17 131071) ?_
            refine done_ (done_of HT_.out (by kernel_rfl)) ?_
            try go_wp2
            go_roundg k3
            case measure => have := HJ4.out; have := HK2.out; have := HK3.out; omega
            case rel => exact ⟨(wrap64 (x229_3 + 1)), (by first | rfl | (simp; done) | (simp [*]; done) | (refine congrArg (Value.int _) ?_; simp only [xw_u32, xw_u8, i64_w, i32_w]; unfold wrap64; omega)), H', ⟨by have := HJ4.out; have := HK2.out; have := HK3.out; omega⟩, ⟨by refine xr ?_; exact HO_7.out⟩, ⟨by refine xb ?_; exact BK235.out⟩, ⟨by refine xb ?_; exact BK246.out⟩, ⟨by exact xh HB.out⟩⟩
          replace c112 := Bool.eq_false_iff.mpr c112
          subst c112
          have H1 : (if x229_3 < 64 then (if (Im.rd t239 x229_3) = (Im.rd a0_2 x229_3) then (winchlaw21_BusHolds.l2 k3 x7_2 (x7_2.length : Int) (wrap64 (x229_3 + 1)) l0_0 l0_1 a0_2 l0_3 l0_4 t239) else (none)) else (none)) = some r := by rw [if_neg (show ¬ (false = true) by decide)] at H; exact H
          clear H
          have H := H1
          clear H1
          by_cases c114 : x229_3 < 64
          rotate_left
          · rw [if_neg c114] at H
            exact absurd H (by simp)
          rw [if_pos c114] at H
          have c114b0 : decide (x229_3 < 64) = true := decide_eq_true c114
          clear c114
          by_cases c115 : (Im.rd t239 x229_3) = (Im.rd a0_2 x229_3)
          rotate_left
          · rw [if_neg c115] at H
            exact absurd H (by simp)
          rw [if_pos c115] at H
          have c115b0 : ((Im.rd t239 x229_3) == (Im.rd a0_2 x229_3)) = true := beq_iff_eq.mpr c115
          have c115b1 : ((Im.rd t239 x229_3) != (Im.rd a0_2 x229_3)) = false := bne_eq_false_iff_eq.mpr c115
          clear c115
          have H' := Aside0.mk H
          clear H
          try go_wp2
          replace HO_7 := Aside0.mk (Kd.R_drew HO_7.out)
          replace BK235 := Aside0.mk (blk_drew BK235.out)
          replace BK246 := Aside0.mk (blk_drew BK246.out)
          replace HB := Aside0.mk (below_drew1 HB.out)
          have p288 : 0 ≤ (x229_3 : Int) := of_decide_eq_true xa
          have q288 : x229_3 < (x7_2.length : Int) := of_decide_eq_true xa
          obtain ⟨ad288, e288, hx288_0⟩ := Kd.at_bool (Kd.R_reads' HO_7.out).2.2 x229_3 p288 q288
          (try rw [← Nbq111.out] at hx288_0)
          cases e288
          replace p288 := eq_true p288
          replace q288 := eq_true q288
          have p289 : 0 ≤ (x229_3 : Int) := of_decide_eq_true xa
          have q289 : (x229_3 : Int) < 64 := of_decide_eq_true xa
          have P289 := Aside0.mk (And.intro p289 q289)
          replace p289 := eq_true p289
          replace q289 := eq_true q289
          have p290 : 0 ≤ (x229_3 : Int) := of_decide_eq_true xa
          have q290 : (x229_3 : Int) < 64 := of_decide_eq_true xa
          have P290 := Aside0.mk (And.intro p290 q290)
          replace p290 := eq_true p290
          replace q290 := eq_true q290
          refine start_ (n := 17) (S := fun w' => w'.cell? (ad288.add (x229_3).toNat) = some (.bool false) ∧ w'.cell? ⟨gb246, x229_3.toNat, none⟩ = some (.int .i64 (Im.rd t239 x229_3)) ∧ w'.cell? ⟨gb235, 2 + x229_3.toNat, none⟩ = some (.int .i64 (Im.rd a0_2 x229_3))) (ds := []) (bz 17 0) (by kernel_rfl) rfl rfl ⟨hx288_0, (im_cell0 (imAt_whole BK246.out) (x229_3 : Int) P289.out.1 P289.out.2 (k := x229_3.toNat) (by first | rfl | omega)), (im_cell0 (imAt_mid #[.slice A0_0 l0_0.length c0_0, .slice A0_1 l0_1.length c0_1] #[.slice A0_3 l0_3.length c0_3, .slice A0_4 l0_4.length c0_4] rfl BK235.out) (x229_3 : Int) P290.out.1 P290.out.2 (k := 2 + x229_3.toNat) (by first | rfl | omega))⟩ (fun hHeld => ?_); refine with_tabW winchlaw21_BusHolds.tab25 winchlaw21_BusHolds.bits25 (fun HT_ HW_ => ?_)
          generalize wr.drew = w116 at HO_7 BK235 BK246 HB hx288_0 hHeld ⊢
          refine pu1 0 (some 232) (bz 17 1) ?_
          refine pu1 1 (some 233) (bz 17 3) ?_
          refine pu1 2 (some 234) (bz 17 7) ?_
          refine ta1 3 (some 235) (bz 17 15) ?_
          refine pu1 4 (some 236) (bz 17 31) ?_
          refine pu1 5 (some 237) (bz 17 63) ?_
          refine pu1 6 (some 238) (bz 17 127) ?_
          refine pu1 7 (some 239) (bz 17 255) ?_
          refine pu1 8 (some 240) (bz 17 511) ?_
          refine pu1 10 (some 242) (bz 17 1535) ?_
          refine pu1 11 (some 243) (bz 17 3583) ?_
          refine pu1 12 (some 244) (bz 17 7679) ?_
          refine pu1 13 (some 245) (bz 17 15871) ?_
          refine ta1 9 (some 241) (bz 17 16383) ?_
          refine ta1 14 (some 246) (bz 17 32767) ?_
          refine pu1 15 (some 247) (bz 17 65535) ?_
          refine pu1 16 (some 248) (bz 17 131071) ?_
          refine done_ (done_of HT_.out (by kernel_rfl)) ?_
          try go_wp2
          go_roundg k3
          case measure => have := HJ4.out; have := HK2.out; have := HK3.out; omega
          case rel => exact ⟨(wrap64 (x229_3 + 1)), (by first | rfl | (simp; done) | (simp [*]; done) | (refine congrArg (Value.int _) ?_; simp only [xw_u32, xw_u8, i64_w, i32_w]; unfold wrap64; omega)), H', ⟨by have := HJ4.out; have := HK2.out; have := HK3.out; omega⟩, ⟨by refine xr ?_; exact HO_7.out⟩, ⟨by refine xb ?_; exact BK235.out⟩, ⟨by refine xb ?_; exact BK246.out⟩, ⟨by exact xh HB.out⟩⟩
      rw [if_pos c26] at H
      have c26b0 : decide (x73_2 < (l0_0.length : Int)) = true := decide_eq_true c26
      clear c26
      by_cases c27 : 0 ≤ x73_2
      rotate_left
      · rw [if_neg c27] at H
        exact absurd H (by simp)
      rw [if_pos c27] at H
      have c27b0 : decide (0 ≤ x73_2) = true := decide_eq_true c27
      clear c27
      by_cases c28 : x73_2 < (l0_0.length : Int)
      rotate_left
      · rw [if_neg c28] at H
        exact absurd H (by simp)
      rw [if_pos c28] at H
      have c28b0 : decide (x73_2 < (l0_0.length : Int)) = true := decide_eq_true c28
      clear c28
      replace H := Option.bind_eq_some_iff.mp H
      obtain ⟨t252, A290, H⟩ := H
      replace H : (if x73_2 < (t238.length : Int) then ((winchlaw21_ints.f k2 ((rd_T43 t238 x73_2).f0) t252).bind fun t257 => (if t257 = true then (if ((rd_T43 t238 x73_2).f1) ≥ ((rd_T40 l0_0 x73_2).f3) then ((winchlaw21_zeros.f k2 ((rd_T43 t238 x73_2).f0)).bind fun t259 => (winchlaw21_BusHolds.j2 k2 t238 t240 x7_2 x73_2 t252 l0_0 (l0_0.length : Int) x73_2 (!t259) l0_0 l0_1 a0_2 l0_3 l0_4 t239 ((rd_T40 l0_0 x73_2).f0) ((rd_T40 l0_0 x73_2).f1) ((rd_T40 l0_0 x73_2).f2) ((rd_T40 l0_0 x73_2).f3))) else (winchlaw21_BusHolds.j2 k2 t238 t240 x7_2 x73_2 t252 l0_0 (l0_0.length : Int) x73_2 false l0_0 l0_1 a0_2 l0_3 l0_4 t239 ((rd_T40 l0_0 x73_2).f0) ((rd_T40 l0_0 x73_2).f1) ((rd_T40 l0_0 x73_2).f2) ((rd_T40 l0_0 x73_2).f3))) else (if ((rd_T43 t238 x73_2).f1) ≥ ((rd_T40 l0_0 x73_2).f3) then ((winchlaw21_zeros.f k2 ((rd_T43 t238 x73_2).f0)).bind fun t261 => (if t261 = true then ((winchlaw21_zeros.f k2 ((rd_T43 t238 x73_2).f0)).bind fun t263 => (winchlaw21_BusHolds.j2 k2 t238 t240 x7_2 x73_2 t252 l0_0 (l0_0.length : Int) x73_2 (!t263) l0_0 l0_1 a0_2 l0_3 l0_4 t239 ((rd_T40 l0_0 x73_2).f0) ((rd_T40 l0_0 x73_2).f1) ((rd_T40 l0_0 x73_2).f2) ((rd_T40 l0_0 x73_2).f3))) else (if x73_2 < (l0_1.length : Int) then ((winchlaw21_ints.f k2 ((rd_T43 t238 x73_2).f0) ((rd_T43 l0_1 x73_2).f0)).bind fun t266 => (if t266 = true then ((winchlaw21_zeros.f k2 ((rd_T43 t238 x73_2).f0)).bind fun t268 => (winchlaw21_BusHolds.j2 k2 t238 t240 x7_2 x73_2 t252 l0_0 (l0_0.length : Int) x73_2 (!t268) l0_0 l0_1 a0_2 l0_3 l0_4 t239 ((rd_T40 l0_0 x73_2).f0) ((rd_T40 l0_0 x73_2).f1) ((rd_T40 l0_0 x73_2).f2) ((rd_T40 l0_0 x73_2).f3))) else (none))) else (none)))) else (if x73_2 < (l0_1.length : Int) then ((winchlaw21_ints.f k2 ((rd_T43 t238 x73_2).f0) ((rd_T43 l0_1 x73_2).f0)).bind fun t271 => (if t271 = true then (winchlaw21_BusHolds.j2 k2 t238 t240 x7_2 x73_2 t252 l0_0 (l0_0.length : Int) x73_2 false l0_0 l0_1 a0_2 l0_3 l0_4 t239 ((rd_T40 l0_0 x73_2).f0) ((rd_T40 l0_0 x73_2).f1) ((rd_T40 l0_0 x73_2).f2) ((rd_T40 l0_0 x73_2).f3)) else (none))) else (none))))) else (none)) = some r := H
      have A29 := Aside0.mk A290
      clear A290
      by_cases c30 : x73_2 < (t238.length : Int)
      rotate_left
      · rw [if_neg c30] at H
        exact absurd H (by simp)
      rw [if_pos c30] at H
      have c30b0 : decide (x73_2 < (t238.length : Int)) = true := decide_eq_true c30
      clear c30
      have HC31 := Aside0.mk H
      clear H
      have p250 : 0 ≤ (x73_2 : Int) := of_decide_eq_true xa
      have q250 : x73_2 < (l0_0.length : Int) := of_decide_eq_true xa
      obtain ⟨ad250, A250_1, c250_1, A250_2, c250_2, e250, hx250_0, hx250_1, hx250_2, hx250_3, hl250_1, hi250_1, hl250_2, hi250_2⟩ := at_T40 HR0_0.out x73_2 p250 q250
      cases e250
      replace hx250_0 := yu HB hx250_0
      replace hx250_1 := yu HB hx250_1
      replace hx250_2 := yu HB hx250_2
      replace hx250_3 := yu HB hx250_3
      have HR250_1 := Aside0.mk hi250_1
      have HC250_1 := Aside0.mk hl250_1
      clear hi250_1 hl250_1
      have HR250_2 := Aside0.mk hi250_2
      have HC250_2 := Aside0.mk hl250_2
      clear hi250_2 hl250_2
      replace p250 := eq_true p250
      replace q250 := eq_true q250
      try go_wp2_with (first | ((with_reducible refine gate_dst (N := 9) rfl ?_); (try (refine gate_guard (by rfl) ?_; dsimp only)); refine be 9 #[.int .i64 0, .slice none 0 0, .slice none 0 0, .int .i64 0] 40 ?_; intro gb251 hg w32 hbox hb; have NB235_251 := Aside0.mk ((by rw [hg]; exact Nat.ne_of_lt (blk_lt (g := gb235) (o := .cells (#[.slice (some ad250) l0_0.length c0_0, .slice A0_1 l0_1.length c0_1] ++ ((ims a0_2) ++ #[.slice A0_3 l0_3.length c0_3, .slice A0_4 l0_4.length c0_4])) 30 (0, 0)) (xb BK235.out)) : gb235 ≠ gb251)); have NB251_235 := Aside0.mk ((by rw [hg]; exact Nat.ne_of_gt (blk_lt (g := gb235) (o := .cells (#[.slice (some ad250) l0_0.length c0_0, .slice A0_1 l0_1.length c0_1] ++ ((ims a0_2) ++ #[.slice A0_3 l0_3.length c0_3, .slice A0_4 l0_4.length c0_4])) 30 (0, 0)) (xb BK235.out)) : gb251 ≠ gb235)); have NB246_251 := Aside0.mk ((by rw [hg]; exact Nat.ne_of_lt (blk_lt (g := gb246) (o := .cells (ims t239) 26 (0, 0)) (xb BK246.out)) : gb246 ≠ gb251)); have NB251_246 := Aside0.mk ((by rw [hg]; exact Nat.ne_of_gt (blk_lt (g := gb246) (o := .cells (ims t239) 26 (0, 0)) (xb BK246.out)) : gb251 ≠ gb246)); replace HO_3 := Aside0.mk (Kd.S_below (by (with_reducible repeat (first | apply Kd.S_alloc | apply Kd.S_drewN | apply Kd.S_drew)); exact HO_3.out) hb); replace HO_5 := rb HO_5 hb; replace HO_7 := rb HO_7 hb; replace BK235 := Aside0.mk (blk_below (g := gb235) (o := .cells (#[.slice (some ad250) l0_0.length c0_0, .slice A0_1 l0_1.length c0_1] ++ ((ims a0_2) ++ #[.slice A0_3 l0_3.length c0_3, .slice A0_4 l0_4.length c0_4])) 30 (0, 0)) (xb BK235.out) hb); replace BK246 := Aside0.mk (blk_below (g := gb246) (o := .cells (ims t239) 26 (0, 0)) (xb BK246.out) hb); have BK251 := Aside0.mk (hbox); have GW251 := bs HB hg; replace HB := bst HB hb; have GE251 := GW251; clear hb hbox hg; have hnb33 := NB251_235.out; have hnc33 := NB235_251.out; have hnb34 := NB251_246.out; have hnc34 := NB246_251.out; obtain ⟨z35_0, z35_1, z35_2, z35_3, Z35_0, Z35_1, Z35_2, Z35_3⟩ := cf4 BK251) | ((with_reducible refine gate_store (t := 40) (p := 9) rfl ?_); refine se 40 9 ((((w32.setCell ⟨gb251, 0, none⟩ (.int .i64 ((rd_T40 l0_0 x73_2).f0))).setCell ⟨gb251, 1, none⟩ (.slice A250_1 ((rd_T40 l0_0 x73_2).f1).length c250_1)).setCell ⟨gb251, 2, none⟩ (.slice A250_2 ((rd_T40 l0_0 x73_2).f2).length c250_2)).setCell ⟨gb251, 3, none⟩ (.int .i64 ((rd_T40 l0_0 x73_2).f3))) ?_; intro w36 hw; have n0_ : Aside0 (Kd.S k43 43 w36 w.heap.size (fun _ => True) v242 t238) := ⟨(by rw [hw]; exact (by (with_reducible repeat (first | apply Kd.S_alloc | apply Kd.S_drewN | apply Kd.S_drew)); exact Kd.S_mono (Kd.S_far (p := ⟨gb251, 3, none⟩) (Kd.S_far (p := ⟨gb251, 2, none⟩) (Kd.S_far (p := ⟨gb251, 1, none⟩) (Kd.S_far (p := ⟨gb251, 0, none⟩) (Kd.S_types HO_3.out BK251.out (by decide)) (fun _ hk => hk.2) (.int .i64 ((rd_T40 l0_0 x73_2).f0))) (fun _ hk => hk.2) (.slice A250_1 ((rd_T40 l0_0 x73_2).f1).length c250_1)) (fun _ hk => hk.2) (.slice A250_2 ((rd_T40 l0_0 x73_2).f2).length c250_2)) (fun _ hk => hk.2) (.int .i64 ((rd_T40 l0_0 x73_2).f3))) (fun _ hk => trivial)))⟩; have n1_ : Aside0 (Kd.R k47 47 w36 w.heap.size (fun _ => True) v244 t240) := yr (Kd.R_types HO_5.out BK251.out (by decide)) hw (fun _ hk => trivial); have n2_ : Aside0 (Kd.R Kd.bool 4 w36 w.heap.size (fun _ => True) v248 x7_2) := yr (Kd.R_types HO_7.out BK251.out (by decide)) hw (fun _ hk => trivial); replace BK235 : Aside0 (w36.heap[gb235]? = some (.cells (#[.slice (some ad250) l0_0.length c0_0, .slice A0_1 l0_1.length c0_1] ++ ((ims a0_2) ++ #[.slice A0_3 l0_3.length c0_3, .slice A0_4 l0_4.length c0_4])) 30 (0, 0))) := ⟨(by rw [hw]; exact (by refine xb ?_; refine blk_far ?_ NB235_251.out _; refine xb ?_; refine blk_far ?_ NB235_251.out _; refine xb ?_; refine blk_far ?_ NB235_251.out _; refine xb ?_; refine blk_far ?_ NB235_251.out _; refine xb ?_; exact BK235.out))⟩; replace BK246 : Aside0 (w36.heap[gb246]? = some (.cells (ims t239) 26 (0, 0))) := ⟨(by rw [hw]; exact (by refine xb ?_; refine blk_far ?_ NB246_251.out _; refine xb ?_; refine blk_far ?_ NB246_251.out _; refine xb ?_; refine blk_far ?_ NB246_251.out _; refine xb ?_; refine blk_far ?_ NB246_251.out _; refine xb ?_; exact BK246.out))⟩; replace BK251 : Aside0 (w36.heap[gb251]? = some (.cells #[.int .i64 ((rd_T40 l0_0 x73_2).f0), .slice A250_1 ((rd_T40 l0_0 x73_2).f1).length c250_1, .slice A250_2 ((rd_T40 l0_0 x73_2).f2).length c250_2, .int .i64 ((rd_T40 l0_0 x73_2).f3)] 40 (0, 0))) := yp BK251 hw; replace HB := yh HB hw; clear hw HO_3 HO_5 HO_7; have HO_3 := n0_; have HO_5 := n1_; have HO_7 := n2_; clear n0_ n1_ n2_) | ((with_reducible refine gate_dst (N := 79) rfl ?_); (try (refine gate_guard (by rfl) ?_; dsimp only)); refine im_load (g := gb235) (off := 2) (m := a0_2) rfl rfl (by first | rfl | (go_simp; done)) ((imAt_mid #[.slice (some ad250) l0_0.length c0_0, .slice A0_1 l0_1.length c0_1] #[.slice A0_3 l0_3.length c0_3, .slice A0_4 l0_4.length c0_4] (T := 30) (fr := (0, 0)) rfl (xb BK235.out))) ?_; obtain ⟨z37_0, z37_1, z37_2, z37_3, Z37_0, Z37_1, Z37_2, Z37_3⟩ := cf4 BK251) | ((with_reducible refine gate_callee (f := 13) rfl ?_); refine goesL_ (some 82) rfl rfl Try.func13 (by kernel_rfl) rfl #[.agg (ims a0_2), .slice A250_2 ((rd_T40 l0_0 x73_2).f2).length c250_2] rfl xl ?_; (with_reducible refine (winchlaw21_outs.calls k2 a0_2 _ _ ((rd_T40 l0_0 x73_2).f2) t252 _ ?side1 ?side2 A29.out).mono ?_); (case side1 => exact xC (Kd.C_below HR250_2.out HB.out)); (case side2 => exact HC250_2.out); rintro e w38 ⟨v253, rfl, ho0, hb⟩; refine ⟨_, rfl, ?_⟩; replace HO_3 := Aside0.mk (Kd.S_elder' (by (with_reducible repeat (first | apply Kd.S_alloc | apply Kd.S_drewN | apply Kd.S_drew)); exact HO_3.out) (Kd.R_base ho0) hb); replace HO_5 := rb HO_5 hb; replace HO_7 := rb HO_7 hb; have HO254 := Aside0.mk (Kd.R_lower ho0 (below_size (xh HB.out))); replace BK235 := Aside0.mk (blk_below (g := gb235) (o := .cells (#[.slice (some ad250) l0_0.length c0_0, .slice A0_1 l0_1.length c0_1] ++ ((ims a0_2) ++ #[.slice A0_3 l0_3.length c0_3, .slice A0_4 l0_4.length c0_4])) 30 (0, 0)) (xb BK235.out) hb); replace BK246 := Aside0.mk (blk_below (g := gb246) (o := .cells (ims t239) 26 (0, 0)) (xb BK246.out) hb); replace BK251 := bb BK251 hb; replace HB := bst HB hb; (try clear hb); (try clear hb2); (try clear hk); (try clear hi); (try clear ho0)))
      replace HO_3 := Aside0.mk (Kd.S_drew HO_3.out)
      replace HO_5 := Aside0.mk (Kd.R_drew HO_5.out)
      replace HO_7 := Aside0.mk (Kd.R_drew HO_7.out)
      replace HO254 := Aside0.mk (Kd.R_drew HO254.out)
      replace BK235 := Aside0.mk (blk_drew BK235.out)
      replace BK246 := Aside0.mk (blk_drew BK246.out)
      replace BK251 := Aside0.mk (blk_drew BK251.out)
      replace HB := Aside0.mk (below_drew1 HB.out)
      obtain ⟨Ao40, co40, eo40⟩ := Kd.S_slice HO_3.out
      (first | subst eo40 | (injection eo40 with f1_ f2_ f3_; have f4_ := f1_.symm; have f5_ := f3_.symm; clear f1_ f2_ f3_; subst f4_; subst f5_))
      have p255 : 0 ≤ (x73_2 : Int) := of_decide_eq_true xa
      have q255 : x73_2 < (t238.length : Int) := of_decide_eq_true xa
      obtain ⟨ad255, A255_0, c255_0, A255_3, c255_3, e255, hx255_0, hx255_1, hx255_2, hx255_3, hl255_0, hi255_0, hl255_3, hi255_3⟩ := at_T43 (Kd.S_reads' HO_3.out).2.2 x73_2 p255 q255
      cases e255
      obtain ⟨ce255, hce255, hMe255, hcc255⟩ := Kd.S_get HO_3.out z43 x73_2 p255 (by first | exact q255 | exact of_decide_eq_true xa | (have e_ := (Kd.S_reads' HO_3.out).1; omega))
      obtain ⟨ve255_0, ve255_3, rfl, ge255_0, ge255_3⟩ := k43_openM hMe255
      have hv255_0 := hcc255 0 _ rfl
      rw [Nat.add_zero] at hv255_0
      replace hv255_0 := Option.some.inj (hv255_0.symm.trans hx255_0)
      rw [hv255_0] at ge255_0
      have HL255_0 := Aside0.mk (show Kd.R (Kd.int .i64) 3 _ _ _ _ ((rd_T43 t238 x73_2).f0) from ge255_0)
      clear hv255_0 ge255_0
      have hv255_3 := hcc255 3 _ rfl
      rw [add_field _ _ 3 (by omega)] at hv255_3
      replace hv255_3 := Option.some.inj (hv255_3.symm.trans hx255_3)
      rw [hv255_3] at ge255_3
      have HL255_3 := Aside0.mk (show Kd.R (Kd.int .i64) 3 _ _ _ _ ((rd_T43 t238 x73_2).f3) from ge255_3)
      clear hv255_3 ge255_3
      clear hcc255 hce255
      have HR255_0 := Aside0.mk hi255_0
      have HC255_0 := Aside0.mk hl255_0
      clear hi255_0 hl255_0
      have HR255_3 := Aside0.mk hi255_3
      have HC255_3 := Aside0.mk hl255_3
      clear hi255_3 hl255_3
      replace p255 := eq_true p255
      replace q255 := eq_true q255
      refine start_ (n := 9) (S := fun w' => w'.cell? ⟨gb251, 0, none⟩ = some (.int .i64 ((rd_T40 l0_0 x73_2).f0)) ∧ w'.cell? ⟨gb251, 1, none⟩ = some (.slice A250_1 ((rd_T40 l0_0 x73_2).f1).length c250_1) ∧ w'.cell? ⟨gb251, 2, none⟩ = some (.slice A250_2 ((rd_T40 l0_0 x73_2).f2).length c250_2) ∧ w'.cell? ⟨gb251, 3, none⟩ = some (.int .i64 ((rd_T40 l0_0 x73_2).f3)) ∧ w'.cell? (ad255.add ((x73_2).toNat * 4)) = some (.slice A255_0 ((rd_T43 t238 x73_2).f0).length c255_0) ∧ w'.cell? ⟨(ad255.add ((x73_2).toNat * 4)).block, (ad255.add ((x73_2).toNat * 4)).off + 1, none⟩ = some (.int .i64 ((rd_T43 t238 x73_2).f1)) ∧ w'.cell? ⟨(ad255.add ((x73_2).toNat * 4)).block, (ad255.add ((x73_2).toNat * 4)).off + 2, none⟩ = some (.int .i64 ((rd_T43 t238 x73_2).f2)) ∧ w'.cell? ⟨(ad255.add ((x73_2).toNat * 4)).block, (ad255.add ((x73_2).toNat * 4)).off + 3, none⟩ = some (.slice A255_3 ((rd_T43 t238 x73_2).f3).length c255_3)) (ds := []) (bz 9 0) (by kernel_rfl) rfl rfl ⟨(blk_cell BK251.out 0).trans rfl, (blk_cell BK251.out 1).trans rfl, (blk_cell BK251.out 2).trans rfl, (blk_cell BK251.out 3).trans rfl, hx255_0, hx255_1, hx255_2, hx255_3⟩ (fun hHeld => ?_); refine with_tabW winchlaw21_BusHolds.tab11 winchlaw21_BusHolds.bits11 (fun HT_ HW_ => ?_)
      generalize w38.drew = w39 at HO_3 HO_5 HO_7 HO254 BK235 BK246 BK251 HB HL255_0 HL255_3 HR255_0 HR255_3 hx255_0 hx255_1 hx255_2 hx255_3 hHeld ⊢
      refine pu1 0 (some 83) (bz 9 1) ?_
      refine pu1 1 (some 84) (bz 9 3) ?_
      refine pu1 2 (some 85) (bz 9 7) ?_
      refine pu1 3 (some 86) (bz 9 15) ?_
      refine pu1 5 (some 88) (bz 9 47) ?_
      refine ta1 4 (some 87) (bz 9 63) ?_
      refine ta1 6 (some 89) (bz 9 127) ?_
      refine pu1 7 (some 90) (bz 9 255) ?_
      refine pu1 8 (some 11) (bz 9 511) ?_
      refine done_ (done_of HT_.out (by kernel_rfl)) ?_
      go_upto_region 12 with (fail)
      go_cut [11, 137] (fun v11 v137 wc => v11 = .bool (decide ((rd_T40 l0_0 x73_2).f3 ≤ (rd_T43 t238 x73_2).f1)) ∧ ∃ (kq : Nat) (x137_30 : Bool), v137 = .bool x137_30 ∧ Aside0 (winchlaw21_BusHolds.j2 kq t238 t240 x7_2 x73_2 t252 l0_0 (l0_0.length : Int) x73_2 x137_30 l0_0 l0_1 a0_2 l0_3 l0_4 t239 ((rd_T40 l0_0 x73_2).f0) ((rd_T40 l0_0 x73_2).f1) ((rd_T40 l0_0 x73_2).f2) ((rd_T40 l0_0 x73_2).f3) = some r) ∧ Aside0 (kq ≤ k2) ∧ Aside0 (Kd.S k43 43 wc w.heap.size (fun k_ => some k_ ≠ (v253 : Value).ownBlock) (.slice (some ad255) t238.length co40) t238) ∧ Aside0 (Kd.R k47 47 wc w.heap.size (fun _ => True) v244 t240) ∧ Aside0 (Kd.R Kd.bool 4 wc w.heap.size (fun _ => True) v248 x7_2) ∧ Aside0 (Kd.R (Kd.int .i64) 3 wc w.heap.size (fun _ => True) v253 t252) ∧ Aside0 (wc.heap[gb235]? = some (.cells (#[(.slice (some ad250) l0_0.length c0_0), (.slice A0_1 l0_1.length c0_1)] ++ ((ims a0_2) ++ #[(.slice A0_3 l0_3.length c0_3), (.slice A0_4 l0_4.length c0_4)])) 30 (0, 0))) ∧ Aside0 (wc.heap[gb246]? = some (.cells (ims t239) 26 (0, 0))) ∧ Aside0 (wc.heap[gb251]? = some (.cells #[.int .i64 ((rd_T40 l0_0 x73_2).f0), (.slice A250_1 ((rd_T40 l0_0 x73_2).f1).length c250_1), (.slice A250_2 ((rd_T40 l0_0 x73_2).f2).length c250_2), .int .i64 ((rd_T40 l0_0 x73_2).f3)] 40 (0, 0))) ∧ Aside0 (Kd.C (Kd.int .i64) wc A255_0 ((rd_T43 t238 x73_2).f0).length ((rd_T43 t238 x73_2).f0)) ∧ Aside0 (Kd.C (Kd.int .i64) wc A255_3 ((rd_T43 t238 x73_2).f3).length ((rd_T43 t238 x73_2).f3)) ∧ Aside0 (Below w.heap.size w wc))
      case first =>
        as_aux_lemma =>
        have H := HC31.out
        clear HC31
        replace H := Option.bind_eq_some_iff.mp H
        obtain ⟨t257, A410, H⟩ := H
        replace H : (if t257 = true then (if ((rd_T43 t238 x73_2).f1) ≥ ((rd_T40 l0_0 x73_2).f3) then ((winchlaw21_zeros.f k2 ((rd_T43 t238 x73_2).f0)).bind fun t259 => (winchlaw21_BusHolds.j2 k2 t238 t240 x7_2 x73_2 t252 l0_0 (l0_0.length : Int) x73_2 (!t259) l0_0 l0_1 a0_2 l0_3 l0_4 t239 ((rd_T40 l0_0 x73_2).f0) ((rd_T40 l0_0 x73_2).f1) ((rd_T40 l0_0 x73_2).f2) ((rd_T40 l0_0 x73_2).f3))) else (winchlaw21_BusHolds.j2 k2 t238 t240 x7_2 x73_2 t252 l0_0 (l0_0.length : Int) x73_2 false l0_0 l0_1 a0_2 l0_3 l0_4 t239 ((rd_T40 l0_0 x73_2).f0) ((rd_T40 l0_0 x73_2).f1) ((rd_T40 l0_0 x73_2).f2) ((rd_T40 l0_0 x73_2).f3))) else (if ((rd_T43 t238 x73_2).f1) ≥ ((rd_T40 l0_0 x73_2).f3) then ((winchlaw21_zeros.f k2 ((rd_T43 t238 x73_2).f0)).bind fun t261 => (if t261 = true then ((winchlaw21_zeros.f k2 ((rd_T43 t238 x73_2).f0)).bind fun t263 => (winchlaw21_BusHolds.j2 k2 t238 t240 x7_2 x73_2 t252 l0_0 (l0_0.length : Int) x73_2 (!t263) l0_0 l0_1 a0_2 l0_3 l0_4 t239 ((rd_T40 l0_0 x73_2).f0) ((rd_T40 l0_0 x73_2).f1) ((rd_T40 l0_0 x73_2).f2) ((rd_T40 l0_0 x73_2).f3))) else (if x73_2 < (l0_1.length : Int) then ((winchlaw21_ints.f k2 ((rd_T43 t238 x73_2).f0) ((rd_T43 l0_1 x73_2).f0)).bind fun t266 => (if t266 = true then ((winchlaw21_zeros.f k2 ((rd_T43 t238 x73_2).f0)).bind fun t268 => (winchlaw21_BusHolds.j2 k2 t238 t240 x7_2 x73_2 t252 l0_0 (l0_0.length : Int) x73_2 (!t268) l0_0 l0_1 a0_2 l0_3 l0_4 t239 ((rd_T40 l0_0 x73_2).f0) ((rd_T40 l0_0 x73_2).f1) ((rd_T40 l0_0 x73_2).f2) ((rd_T40 l0_0 x73_2).f3))) else (none))) else (none)))) else (if x73_2 < (l0_1.length : Int) then ((winchlaw21_ints.f k2 ((rd_T43 t238 x73_2).f0) ((rd_T43 l0_1 x73_2).f0)).bind fun t271 => (if t271 = true then (winchlaw21_BusHolds.j2 k2 t238 t240 x7_2 x73_2 t252 l0_0 (l0_0.length : Int) x73_2 false l0_0 l0_1 a0_2 l0_3 l0_4 t239 ((rd_T40 l0_0 x73_2).f0) ((rd_T40 l0_0 x73_2).f1) ((rd_T40 l0_0 x73_2).f2) ((rd_T40 l0_0 x73_2).f3)) else (none))) else (none)))) = some r := H
        have A41 := Aside0.mk A410
        clear A410
        by_cases c42 : t257 = true
        · subst c42
          have H1 : (if ((rd_T43 t238 x73_2).f1) ≥ ((rd_T40 l0_0 x73_2).f3) then ((winchlaw21_zeros.f k2 ((rd_T43 t238 x73_2).f0)).bind fun t259 => (winchlaw21_BusHolds.j2 k2 t238 t240 x7_2 x73_2 t252 l0_0 (l0_0.length : Int) x73_2 (!t259) l0_0 l0_1 a0_2 l0_3 l0_4 t239 ((rd_T40 l0_0 x73_2).f0) ((rd_T40 l0_0 x73_2).f1) ((rd_T40 l0_0 x73_2).f2) ((rd_T40 l0_0 x73_2).f3))) else (winchlaw21_BusHolds.j2 k2 t238 t240 x7_2 x73_2 t252 l0_0 (l0_0.length : Int) x73_2 false l0_0 l0_1 a0_2 l0_3 l0_4 t239 ((rd_T40 l0_0 x73_2).f0) ((rd_T40 l0_0 x73_2).f1) ((rd_T40 l0_0 x73_2).f2) ((rd_T40 l0_0 x73_2).f3))) = some r := by rw [if_pos rfl] at H; exact H
          clear H
          have H := H1
          clear H1
          by_cases c43 : ((rd_T43 t238 x73_2).f1) ≥ ((rd_T40 l0_0 x73_2).f3)
          rotate_left
          · rw [if_neg c43] at H
            have c43b0 : decide (((rd_T40 l0_0 x73_2).f3) ≤ ((rd_T43 t238 x73_2).f1)) = false := decide_eq_false c43
            clear c43
            (first | rw [c43b0] | (simp only [i64_w, i32_w]; rw [c43b0]) | skip)
            have H' := Aside0.mk H
            clear H
            try go_wp2
            replace HO_3 := Aside0.mk (Kd.S_drew HO_3.out)
            replace HO_5 := Aside0.mk (Kd.R_drew HO_5.out)
            replace HO_7 := Aside0.mk (Kd.R_drew HO_7.out)
            replace HO254 := Aside0.mk (Kd.R_drew HO254.out)
            replace HL255_0 := Aside0.mk (Kd.R_drew HL255_0.out)
            replace HL255_3 := Aside0.mk (Kd.R_drew HL255_3.out)
            replace BK235 := Aside0.mk (blk_drew BK235.out)
            replace BK246 := Aside0.mk (blk_drew BK246.out)
            replace BK251 := Aside0.mk (blk_drew BK251.out)
            replace HR255_0 := Aside0.mk (Kd.C_drew HR255_0.out)
            replace HR255_3 := Aside0.mk (Kd.C_drew HR255_3.out)
            replace HB := Aside0.mk (below_drew1 HB.out)
            have p256 : 0 ≤ (x73_2 : Int) := of_decide_eq_true xa
            have q256 : x73_2 < (t238.length : Int) := of_decide_eq_true xa
            obtain ⟨ad256, A256_0, c256_0, A256_3, c256_3, e256, hx256_0, hx256_1, hx256_2, hx256_3, hl256_0, hi256_0, hl256_3, hi256_3⟩ := at_T43 (Kd.S_reads' HO_3.out).2.2 x73_2 p256 q256
            obtain rfl : ad255 = ad256 := (by injection e256)
            obtain ⟨ce256, hce256, hMe256, hcc256⟩ := Kd.S_get HO_3.out z43 x73_2 p256 (by first | exact q256 | exact of_decide_eq_true xa | (have e_ := (Kd.S_reads' HO_3.out).1; omega))
            obtain ⟨ve256_0, ve256_3, rfl, ge256_0, ge256_3⟩ := k43_openM hMe256
            have hv256_0 := hcc256 0 _ rfl
            rw [Nat.add_zero] at hv256_0
            replace hv256_0 := Option.some.inj (hv256_0.symm.trans hx256_0)
            rw [hv256_0] at ge256_0
            have HL256_0 := Aside0.mk (show Kd.R (Kd.int .i64) 3 _ _ _ _ ((rd_T43 t238 x73_2).f0) from ge256_0)
            clear hv256_0 ge256_0
            have hv256_3 := hcc256 3 _ rfl
            rw [add_field _ _ 3 (by omega)] at hv256_3
            replace hv256_3 := Option.some.inj (hv256_3.symm.trans hx256_3)
            rw [hv256_3] at ge256_3
            have HL256_3 := Aside0.mk (show Kd.R (Kd.int .i64) 3 _ _ _ _ ((rd_T43 t238 x73_2).f3) from ge256_3)
            clear hv256_3 ge256_3
            clear hcc256 hce256
            have HR256_0 := Aside0.mk hi256_0
            have HC256_0 := Aside0.mk hl256_0
            clear hi256_0 hl256_0
            have HR256_3 := Aside0.mk hi256_3
            have HC256_3 := Aside0.mk hl256_3
            clear hi256_3 hl256_3
            replace p256 := eq_true p256
            replace q256 := eq_true q256
            obtain ⟨Ao48, co48, eo48⟩ := Kd.R_slice HO254.out
            (first | subst eo48 | (injection eo48 with f1_ f2_ f3_; have f4_ := f1_.symm; have f5_ := f3_.symm; clear f1_ f2_ f3_; subst f4_; subst f5_))
            refine start_ (n := 47) (S := fun w' => w'.cell? (ad255.add ((x73_2).toNat * 4)) = some (.slice A256_0 ((rd_T43 t238 x73_2).f0).length c256_0) ∧ w'.cell? ⟨(ad255.add ((x73_2).toNat * 4)).block, (ad255.add ((x73_2).toNat * 4)).off + 1, none⟩ = some (.int .i64 ((rd_T43 t238 x73_2).f1)) ∧ w'.cell? ⟨(ad255.add ((x73_2).toNat * 4)).block, (ad255.add ((x73_2).toNat * 4)).off + 2, none⟩ = some (.int .i64 ((rd_T43 t238 x73_2).f2)) ∧ w'.cell? ⟨(ad255.add ((x73_2).toNat * 4)).block, (ad255.add ((x73_2).toNat * 4)).off + 3, none⟩ = some (.slice A256_3 ((rd_T43 t238 x73_2).f3).length c256_3)) (ds := []) (bz 47 0) (by kernel_rfl) rfl rfl ⟨hx256_0, hx256_1, hx256_2, hx256_3⟩ (fun hHeld => ?_); refine with_tabW winchlaw21_BusHolds.tab12 winchlaw21_BusHolds.bits12 (fun HT_ HW_ => ?_)
            generalize w39.drew = w47 at HO_3 HO_5 HO_7 HO254 HL255_0 HL255_3 BK235 BK246 BK251 HR255_0 HR255_3 HB HL256_0 HL256_3 HR256_0 HR256_3 hx256_0 hx256_1 hx256_2 hx256_3 hHeld ⊢
            refine pu1 0 (some 91) (bz 47 1) ?_
            refine pu1 1 (some 92) (bz 47 3) ?_
            refine pu1 2 (some 93) (bz 47 7) ?_
            refine pu1 3 (some 94) (bz 47 15) ?_
            refine pu1 5 (some 96) (bz 47 47) ?_
            refine ta1 4 (some 95) (bz 47 63) ?_
            refine one_ (i := 6) (N := some 97) (bz 47 127) rfl rfl (one_of HT_.out (by kernel_rfl)) (by decide) (fun K hK => ?_)
            refine goes_ Try.func14 (by kernel_rfl) rfl #[.slice A256_0 ((rd_T43 t238 x73_2).f0).length c256_0, .slice Ao48 t252.length co48] (by rfl) rfl rfl xl ?_
            with_reducible refine (winchlaw21_ints.calls k2 _ _ ((rd_T43 t238 x73_2).f0) _ _ t252 true _ ?side1 ?side2 ?side3 ?side4 A41.out).mono ?_
            (case side1 => repeat (first | exact (by repeat (first | (with_reducible exact HR256_0.out) | (with_reducible refine Kd.C_alloc ?_ _) | (with_reducible refine Kd.C_drewN ?_ _) | (with_reducible refine Kd.C_drew ?_) | exact HR256_0.out)) | (with_reducible refine Kd.C_alloc ?_ _) | (with_reducible refine Kd.C_drewN ?_ _) | (with_reducible refine Kd.C_drew ?_)))
            (case side2 => exact HC256_0.out)
            (case side3 => exact xC ((Kd.R_reads' HO254.out).2.2))
            (case side4 => exact (Kd.R_reads' HO254.out).2.1)
            rintro e w' ⟨rfl, ⟨nd, rfl⟩⟩
            refine ⟨_, rfl, ?_⟩
            refine hK.out _ _ ⟨hHeld.1, hHeld.2.1, hHeld.2.2.1, hHeld.2.2.2⟩ (fun hHeld => ?_)
            clear hK K
            refine norm_ (a' := ?_) ?_ ?_
            rotate_left
            · show Act.put _ (some 97) _ = _
              simp only [Act.put, List.setIfInBounds_toArray, List.set_cons_zero, List.set_cons_succ, i64_w, i32_w]
              rfl
            refine pu1 7 (some 98) (bz 47 255) ?_
            refine pu1 8 (some 99) (bz 47 511) ?_
            refine pn1 9 (some 100) (bz 47 1023) ?_
            refine pn1 10 (some 101) (bz 47 2047) ?_
            refine pn1 11 (some 102) (bz 47 4095) ?_
            refine pn1 12 (some 103) (bz 47 8191) ?_
            refine pn1 13 (some 104) (bz 47 16383) ?_
            refine pn1 14 (some 105) (bz 47 32767) ?_
            refine pn1 15 (some 106) (bz 47 65535) ?_
            refine pn1 16 (some 107) (bz 47 131071) ?_
            refine pn1 17 (some 108) (bz 47 262143) ?_
            refine pn1 18 (some 109) (bz 47 524287) ?_
            refine pu1 19 (some 110) (bz 47 1048575) ?_
            refine pu1 20 (some 111) (bz 47 2097151) ?_
            refine pn1 21 (some 112) (bz 47 4194303) ?_
            refine pn1 22 (some 113) (bz 47 8388607) ?_
            refine pn1 23 (some 114) (bz 47 16777215) ?_
            refine pn1 24 (some 115) (bz 47 33554431) ?_
            refine pn1 25 (some 116) (bz 47 67108863) ?_
            refine pn1 26 (some 117) (bz 47 134217727) ?_
            refine pn1 27 (some 118) (bz 47 268435455) ?_
            refine pn1 28 (some 119) (bz 47 536870911) ?_
            refine pn1 29 (some 120) (bz 47 1073741823) ?_
            refine pn1 30 (some 121) (bz 47 2147483647) ?_
            refine pn1 31 (some 122) (bz 47 4294967295) ?_
            refine pn1 32 (some 123) (bz 47 8589934591) ?_
            refine pn1 33 (some 124) (bz 47 17179869183) ?_
            refine pu1 34 (some 125) (bz 47 34359738367) ?_
            refine pu1 35 (some 126) (bz 47 68719476735) ?_
            refine pu1 36 (some 127) (bz 47 137438953471) ?_
            refine pu1 37 (some 128) (bz 47 274877906943) ?_
            refine pn1 38 (some 129) (bz 47 549755813887) ?_
            refine pn1 39 (some 130) (bz 47 1099511627775) ?_
            refine pn1 40 (some 131) (bz 47 2199023255551) ?_
            refine pn1 41 (some 132) (bz 47 4398046511103) ?_
            refine pn1 42 (some 133) (bz 47 8796093022207) ?_
            refine pn1 43 (some 134) (bz 47 17592186044415) ?_
            refine pn1 44 (some 135) (bz 47 35184372088831) ?_
            refine pu1 45 (some 136) (bz 47 70368744177663) ?_
            refine pu1 46 (some 137) (bz 47 140737488355327) ?_
            refine done_ (done_of HT_.out (by kernel_rfl)) ?_
            try go_wp2
            go_meet
            case rel => exact ⟨(by first | rfl | (congr 1; symm; assumption) | (simp [*]; done)), _, (false), (by first | rfl | (simp; done) | (simp [*]; done) | (refine congrArg (Value.int _) ?_; simp only [xw_u32, xw_u8, i64_w, i32_w]; unfold wrap64; omega)), H', ⟨by have := HJ4.out; have := HK2.out; first | omega | exact Nat.le_refl _⟩, ⟨by (with_reducible repeat (first | apply Kd.S_alloc | apply Kd.S_drewN | apply Kd.S_drew)); exact Kd.S_mono HO_3.out (fun _ hk => hk.2)⟩, ⟨by refine xr ?_; exact HO_5.out⟩, ⟨by refine xr ?_; exact HO_7.out⟩, ⟨by refine xr ?_; exact HO254.out⟩, ⟨by refine xb ?_; exact BK235.out⟩, ⟨by refine xb ?_; exact BK246.out⟩, ⟨by refine xb ?_; exact BK251.out⟩, ⟨by repeat (first | (with_reducible exact HR255_0.out) | (with_reducible refine Kd.C_alloc ?_ _) | (with_reducible refine Kd.C_drewN ?_ _) | (with_reducible refine Kd.C_drew ?_) | exact HR255_0.out)⟩, ⟨by repeat (first | (with_reducible exact HR255_3.out) | (with_reducible refine Kd.C_alloc ?_ _) | (with_reducible refine Kd.C_drewN ?_ _) | (with_reducible refine Kd.C_drew ?_) | exact HR255_3.out)⟩, ⟨by exact xh HB.out⟩⟩
          rw [if_pos c43] at H
          have c43b0 : decide (((rd_T40 l0_0 x73_2).f3) ≤ ((rd_T43 t238 x73_2).f1)) = true := decide_eq_true c43
          clear c43
          (first | rw [c43b0] | (simp only [i64_w, i32_w]; rw [c43b0]) | skip)
          replace H := Option.bind_eq_some_iff.mp H
          obtain ⟨t259, A440, H⟩ := H
          replace H : (winchlaw21_BusHolds.j2 k2 t238 t240 x7_2 x73_2 t252 l0_0 (l0_0.length : Int) x73_2 (!t259) l0_0 l0_1 a0_2 l0_3 l0_4 t239 ((rd_T40 l0_0 x73_2).f0) ((rd_T40 l0_0 x73_2).f1) ((rd_T40 l0_0 x73_2).f2) ((rd_T40 l0_0 x73_2).f3)) = some r := H
          have A44 := Aside0.mk A440
          clear A440
          have H' := Aside0.mk H
          clear H
          try go_wp2
          replace HO_3 := Aside0.mk (Kd.S_drew HO_3.out)
          replace HO_5 := Aside0.mk (Kd.R_drew HO_5.out)
          replace HO_7 := Aside0.mk (Kd.R_drew HO_7.out)
          replace HO254 := Aside0.mk (Kd.R_drew HO254.out)
          replace HL255_0 := Aside0.mk (Kd.R_drew HL255_0.out)
          replace HL255_3 := Aside0.mk (Kd.R_drew HL255_3.out)
          replace BK235 := Aside0.mk (blk_drew BK235.out)
          replace BK246 := Aside0.mk (blk_drew BK246.out)
          replace BK251 := Aside0.mk (blk_drew BK251.out)
          replace HR255_0 := Aside0.mk (Kd.C_drew HR255_0.out)
          replace HR255_3 := Aside0.mk (Kd.C_drew HR255_3.out)
          replace HB := Aside0.mk (below_drew1 HB.out)
          have p256 : 0 ≤ (x73_2 : Int) := of_decide_eq_true xa
          have q256 : x73_2 < (t238.length : Int) := of_decide_eq_true xa
          obtain ⟨ad256, A256_0, c256_0, A256_3, c256_3, e256, hx256_0, hx256_1, hx256_2, hx256_3, hl256_0, hi256_0, hl256_3, hi256_3⟩ := at_T43 (Kd.S_reads' HO_3.out).2.2 x73_2 p256 q256
          obtain rfl : ad255 = ad256 := (by injection e256)
          obtain ⟨ce256, hce256, hMe256, hcc256⟩ := Kd.S_get HO_3.out z43 x73_2 p256 (by first | exact q256 | exact of_decide_eq_true xa | (have e_ := (Kd.S_reads' HO_3.out).1; omega))
          obtain ⟨ve256_0, ve256_3, rfl, ge256_0, ge256_3⟩ := k43_openM hMe256
          have hv256_0 := hcc256 0 _ rfl
          rw [Nat.add_zero] at hv256_0
          replace hv256_0 := Option.some.inj (hv256_0.symm.trans hx256_0)
          rw [hv256_0] at ge256_0
          have HL256_0 := Aside0.mk (show Kd.R (Kd.int .i64) 3 _ _ _ _ ((rd_T43 t238 x73_2).f0) from ge256_0)
          clear hv256_0 ge256_0
          have hv256_3 := hcc256 3 _ rfl
          rw [add_field _ _ 3 (by omega)] at hv256_3
          replace hv256_3 := Option.some.inj (hv256_3.symm.trans hx256_3)
          rw [hv256_3] at ge256_3
          have HL256_3 := Aside0.mk (show Kd.R (Kd.int .i64) 3 _ _ _ _ ((rd_T43 t238 x73_2).f3) from ge256_3)
          clear hv256_3 ge256_3
          clear hcc256 hce256
          have HR256_0 := Aside0.mk hi256_0
          have HC256_0 := Aside0.mk hl256_0
          clear hi256_0 hl256_0
          have HR256_3 := Aside0.mk hi256_3
          have HC256_3 := Aside0.mk hl256_3
          clear hi256_3 hl256_3
          replace p256 := eq_true p256
          replace q256 := eq_true q256
          obtain ⟨Ao46, co46, eo46⟩ := Kd.R_slice HO254.out
          (first | subst eo46 | (injection eo46 with f1_ f2_ f3_; have f4_ := f1_.symm; have f5_ := f3_.symm; clear f1_ f2_ f3_; subst f4_; subst f5_))
          have p258 : 0 ≤ (x73_2 : Int) := of_decide_eq_true xa
          have q258 : x73_2 < (t238.length : Int) := of_decide_eq_true xa
          obtain ⟨ad258, A258_0, c258_0, A258_3, c258_3, e258, hx258_0, hx258_1, hx258_2, hx258_3, hl258_0, hi258_0, hl258_3, hi258_3⟩ := at_T43 (Kd.S_reads' HO_3.out).2.2 x73_2 p258 q258
          obtain rfl : ad255 = ad258 := (by injection e258)
          obtain ⟨ce258, hce258, hMe258, hcc258⟩ := Kd.S_get HO_3.out z43 x73_2 p258 (by first | exact q258 | exact of_decide_eq_true xa | (have e_ := (Kd.S_reads' HO_3.out).1; omega))
          obtain ⟨ve258_0, ve258_3, rfl, ge258_0, ge258_3⟩ := k43_openM hMe258
          have hv258_0 := hcc258 0 _ rfl
          rw [Nat.add_zero] at hv258_0
          replace hv258_0 := Option.some.inj (hv258_0.symm.trans hx258_0)
          rw [hv258_0] at ge258_0
          have HL258_0 := Aside0.mk (show Kd.R (Kd.int .i64) 3 _ _ _ _ ((rd_T43 t238 x73_2).f0) from ge258_0)
          clear hv258_0 ge258_0
          have hv258_3 := hcc258 3 _ rfl
          rw [add_field _ _ 3 (by omega)] at hv258_3
          replace hv258_3 := Option.some.inj (hv258_3.symm.trans hx258_3)
          rw [hv258_3] at ge258_3
          have HL258_3 := Aside0.mk (show Kd.R (Kd.int .i64) 3 _ _ _ _ ((rd_T43 t238 x73_2).f3) from ge258_3)
          clear hv258_3 ge258_3
          clear hcc258 hce258
          have HR258_0 := Aside0.mk hi258_0
          have HC258_0 := Aside0.mk hl258_0
          clear hi258_0 hl258_0
          have HR258_3 := Aside0.mk hi258_3
          have HC258_3 := Aside0.mk hl258_3
          clear hi258_3 hl258_3
          replace p258 := eq_true p258
          replace q258 := eq_true q258
          have ea_ := Option.some.inj (hx256_0.symm.trans hx258_0)
          injection ea_ with ea_ en_ ec_
          subst ea_
          subst ec_
          clear en_
          have ea_ := Option.some.inj (hx256_3.symm.trans hx258_3)
          injection ea_ with ea_ en_ ec_
          subst ea_
          subst ec_
          clear en_
          refine start_ (n := 47) (S := fun w' => w'.cell? (ad255.add ((x73_2).toNat * 4)) = some (.slice A256_0 ((rd_T43 t238 x73_2).f0).length c256_0) ∧ w'.cell? ⟨(ad255.add ((x73_2).toNat * 4)).block, (ad255.add ((x73_2).toNat * 4)).off + 1, none⟩ = some (.int .i64 ((rd_T43 t238 x73_2).f1)) ∧ w'.cell? ⟨(ad255.add ((x73_2).toNat * 4)).block, (ad255.add ((x73_2).toNat * 4)).off + 2, none⟩ = some (.int .i64 ((rd_T43 t238 x73_2).f2)) ∧ w'.cell? ⟨(ad255.add ((x73_2).toNat * 4)).block, (ad255.add ((x73_2).toNat * 4)).off + 3, none⟩ = some (.slice A256_3 ((rd_T43 t238 x73_2).f3).length c256_3) ∧ w'.cell? (ad255.add ((x73_2).toNat * 4)) = some (.slice A256_0 ((rd_T43 t238 x73_2).f0).length c256_0) ∧ w'.cell? ⟨(ad255.add ((x73_2).toNat * 4)).block, (ad255.add ((x73_2).toNat * 4)).off + 1, none⟩ = some (.int .i64 ((rd_T43 t238 x73_2).f1)) ∧ w'.cell? ⟨(ad255.add ((x73_2).toNat * 4)).block, (ad255.add ((x73_2).toNat * 4)).off + 2, none⟩ = some (.int .i64 ((rd_T43 t238 x73_2).f2)) ∧ w'.cell? ⟨(ad255.add ((x73_2).toNat * 4)).block, (ad255.add ((x73_2).toNat * 4)).off + 3, none⟩ = some (.slice A256_3 ((rd_T43 t238 x73_2).f3).length c256_3)) (ds := []) (bz 47 0) (by kernel_rfl) rfl rfl ⟨hx256_0, hx256_1, hx256_2, hx256_3, hx258_0, hx258_1, hx258_2, hx258_3⟩ (fun hHeld => ?_); refine with_tabW winchlaw21_BusHolds.tab12 winchlaw21_BusHolds.bits12 (fun HT_ HW_ => ?_)
          generalize w39.drew = w45 at HO_3 HO_5 HO_7 HO254 HL255_0 HL255_3 BK235 BK246 BK251 HR255_0 HR255_3 HB HL256_0 HL256_3 HL258_0 HL258_3 HR256_0 HR256_3 HR258_0 HR258_3 hx256_0 hx256_1 hx256_2 hx256_3 hx258_0 hx258_1 hx258_2 hx258_3 hHeld ⊢
          refine pu1 0 (some 91) (bz 47 1) ?_
          refine pu1 1 (some 92) (bz 47 3) ?_
          refine pu1 2 (some 93) (bz 47 7) ?_
          refine pu1 3 (some 94) (bz 47 15) ?_
          refine pu1 5 (some 96) (bz 47 47) ?_
          refine ta1 4 (some 95) (bz 47 63) ?_
          refine one_ (i := 6) (N := some 97) (bz 47 127) rfl rfl (one_of HT_.out (by kernel_rfl)) (by decide) (fun K hK => ?_)
          refine goes_ Try.func14 (by kernel_rfl) rfl #[.slice A256_0 ((rd_T43 t238 x73_2).f0).length c256_0, .slice Ao46 t252.length co46] (by rfl) rfl rfl xl ?_
          with_reducible refine (winchlaw21_ints.calls k2 _ _ ((rd_T43 t238 x73_2).f0) _ _ t252 true _ ?side1 ?side2 ?side3 ?side4 A41.out).mono ?_
          (case side1 => repeat (first | exact (by repeat (first | (with_reducible exact HR256_0.out) | (with_reducible refine Kd.C_alloc ?_ _) | (with_reducible refine Kd.C_drewN ?_ _) | (with_reducible refine Kd.C_drew ?_) | exact HR256_0.out)) | (with_reducible refine Kd.C_alloc ?_ _) | (with_reducible refine Kd.C_drewN ?_ _) | (with_reducible refine Kd.C_drew ?_)))
          (case side2 => exact HC256_0.out)
          (case side3 => exact xC ((Kd.R_reads' HO254.out).2.2))
          (case side4 => exact (Kd.R_reads' HO254.out).2.1)
          rintro e w' ⟨rfl, ⟨nd, rfl⟩⟩
          refine ⟨_, rfl, ?_⟩
          refine hK.out _ _ ⟨hHeld.1, hHeld.2.1, hHeld.2.2.1, hHeld.2.2.2.1, hHeld.2.2.2.2.1, hHeld.2.2.2.2.2.1, hHeld.2.2.2.2.2.2.1, hHeld.2.2.2.2.2.2.2⟩ (fun hHeld => ?_)
          clear hK K
          refine norm_ (a' := ?_) ?_ ?_
          rotate_left
          · show Act.put _ (some 97) _ = _
            simp only [Act.put, List.setIfInBounds_toArray, List.set_cons_zero, List.set_cons_succ, i64_w, i32_w]
            rfl
          refine pu1 7 (some 98) (bz 47 255) ?_
          refine pu1 8 (some 99) (bz 47 511) ?_
          refine pn1 9 (some 100) (bz 47 1023) ?_
          refine pn1 10 (some 101) (bz 47 2047) ?_
          refine pn1 11 (some 102) (bz 47 4095) ?_
          refine pn1 12 (some 103) (bz 47 8191) ?_
          refine pn1 13 (some 104) (bz 47 16383) ?_
          refine pn1 14 (some 105) (bz 47 32767) ?_
          refine pn1 15 (some 106) (bz 47 65535) ?_
          refine pn1 16 (some 107) (bz 47 131071) ?_
          refine pn1 17 (some 108) (bz 47 262143) ?_
          refine pn1 18 (some 109) (bz 47 524287) ?_
          refine pu1 19 (some 110) (bz 47 1048575) ?_
          refine pu1 20 (some 111) (bz 47 2097151) ?_
          refine pn1 21 (some 112) (bz 47 4194303) ?_
          refine pn1 22 (some 113) (bz 47 8388607) ?_
          refine pn1 23 (some 114) (bz 47 16777215) ?_
          refine pn1 24 (some 115) (bz 47 33554431) ?_
          refine pn1 25 (some 116) (bz 47 67108863) ?_
          refine pn1 26 (some 117) (bz 47 134217727) ?_
          refine pn1 27 (some 118) (bz 47 268435455) ?_
          refine pn1 28 (some 119) (bz 47 536870911) ?_
          refine pn1 29 (some 120) (bz 47 1073741823) ?_
          refine pn1 30 (some 121) (bz 47 2147483647) ?_
          refine pn1 31 (some 122) (bz 47 4294967295) ?_
          refine pn1 32 (some 123) (bz 47 8589934591) ?_
          refine pn1 33 (some 124) (bz 47 17179869183) ?_
          refine pu1 34 (some 125) (bz 47 34359738367) ?_
          refine pu1 35 (some 126) (bz 47 68719476735) ?_
          refine pu1 36 (some 127) (bz 47 137438953471) ?_
          refine pu1 37 (some 128) (bz 47 274877906943) ?_
          refine pu1 38 (some 129) (bz 47 549755813887) ?_
          refine pu1 39 (some 130) (bz 47 1099511627775) ?_
          refine pu1 40 (some 131) (bz 47 2199023255551) ?_
          refine pu1 41 (some 132) (bz 47 4398046511103) ?_
          refine ta1 42 (some 133) (bz 47 8796093022207) ?_
          refine one_ (i := 43) (N := some 134) (bz 47 17592186044415) rfl rfl (one_of HT_.out (by kernel_rfl)) (by decide) (fun K hK => ?_)
          refine goes_ Try.func15 (by kernel_rfl) rfl #[.slice A256_0 ((rd_T43 t238 x73_2).f0).length c256_0] (by rfl) rfl rfl xl ?_
          with_reducible refine (winchlaw21_zeros.calls k2 _ _ ((rd_T43 t238 x73_2).f0) t259 _ ?side1 ?side2 A44.out).mono ?_
          (case side1 => repeat (first | exact (by repeat (first | (with_reducible exact HR258_0.out) | (with_reducible refine Kd.C_alloc ?_ _) | (with_reducible refine Kd.C_drewN ?_ _) | (with_reducible refine Kd.C_drew ?_) | exact HR258_0.out)) | (with_reducible refine Kd.C_alloc ?_ _) | (with_reducible refine Kd.C_drewN ?_ _) | (with_reducible refine Kd.C_drew ?_)))
          (case side2 => exact HC258_0.out)
          rintro e w' ⟨rfl, ⟨nd, rfl⟩⟩
          refine ⟨_, rfl, ?_⟩
          refine hK.out _ _ ⟨hHeld.1, hHeld.2.1, hHeld.2.2.1, hHeld.2.2.2.1, hHeld.2.2.2.2.1, hHeld.2.2.2.2.2.1, hHeld.2.2.2.2.2.2.1, hHeld.2.2.2.2.2.2.2⟩ (fun hHeld => ?_)
          clear hK K
          refine norm_ (a' := ?_) ?_ ?_
          rotate_left
          · show Act.put _ (some 134) _ = _
            simp only [Act.put, List.setIfInBounds_toArray, List.set_cons_zero, List.set_cons_succ, i64_w, i32_w]
            rfl
          refine pu1 44 (some 135) (bz 47 35184372088831) ?_
          refine pu1 45 (some 136) (bz 47 70368744177663) ?_
          refine pu1 46 (some 137) (bz 47 140737488355327) ?_
          refine done_ (done_of HT_.out (by kernel_rfl)) ?_
          try go_wp2
          go_meet
          case rel => exact ⟨(by first | rfl | (congr 1; symm; assumption) | (simp [*]; done)), _, (!t259), (by first | rfl | (simp; done) | (simp [*]; done) | (refine congrArg (Value.int _) ?_; simp only [xw_u32, xw_u8, i64_w, i32_w]; unfold wrap64; omega)), H', ⟨by have := HJ4.out; have := HK2.out; first | omega | exact Nat.le_refl _⟩, ⟨by (with_reducible repeat (first | apply Kd.S_alloc | apply Kd.S_drewN | apply Kd.S_drew)); exact Kd.S_mono HO_3.out (fun _ hk => hk.2)⟩, ⟨by refine xr ?_; exact HO_5.out⟩, ⟨by refine xr ?_; exact HO_7.out⟩, ⟨by refine xr ?_; exact HO254.out⟩, ⟨by refine xb ?_; exact BK235.out⟩, ⟨by refine xb ?_; exact BK246.out⟩, ⟨by refine xb ?_; exact BK251.out⟩, ⟨by repeat (first | (with_reducible exact HR255_0.out) | (with_reducible refine Kd.C_alloc ?_ _) | (with_reducible refine Kd.C_drewN ?_ _) | (with_reducible refine Kd.C_drew ?_) | exact HR255_0.out)⟩, ⟨by repeat (first | (with_reducible exact HR255_3.out) | (with_reducible refine Kd.C_alloc ?_ _) | (with_reducible refine Kd.C_drewN ?_ _) | (with_reducible refine Kd.C_drew ?_) | exact HR255_3.out)⟩, ⟨by exact xh HB.out⟩⟩
        replace c42 := Bool.eq_false_iff.mpr c42
        subst c42
        have H1 : (if ((rd_T43 t238 x73_2).f1) ≥ ((rd_T40 l0_0 x73_2).f3) then ((winchlaw21_zeros.f k2 ((rd_T43 t238 x73_2).f0)).bind fun t261 => (if t261 = true then ((winchlaw21_zeros.f k2 ((rd_T43 t238 x73_2).f0)).bind fun t263 => (winchlaw21_BusHolds.j2 k2 t238 t240 x7_2 x73_2 t252 l0_0 (l0_0.length : Int) x73_2 (!t263) l0_0 l0_1 a0_2 l0_3 l0_4 t239 ((rd_T40 l0_0 x73_2).f0) ((rd_T40 l0_0 x73_2).f1) ((rd_T40 l0_0 x73_2).f2) ((rd_T40 l0_0 x73_2).f3))) else (if x73_2 < (l0_1.length : Int) then ((winchlaw21_ints.f k2 ((rd_T43 t238 x73_2).f0) ((rd_T43 l0_1 x73_2).f0)).bind fun t266 => (if t266 = true then ((winchlaw21_zeros.f k2 ((rd_T43 t238 x73_2).f0)).bind fun t268 => (winchlaw21_BusHolds.j2 k2 t238 t240 x7_2 x73_2 t252 l0_0 (l0_0.length : Int) x73_2 (!t268) l0_0 l0_1 a0_2 l0_3 l0_4 t239 ((rd_T40 l0_0 x73_2).f0) ((rd_T40 l0_0 x73_2).f1) ((rd_T40 l0_0 x73_2).f2) ((rd_T40 l0_0 x73_2).f3))) else (none))) else (none)))) else (if x73_2 < (l0_1.length : Int) then ((winchlaw21_ints.f k2 ((rd_T43 t238 x73_2).f0) ((rd_T43 l0_1 x73_2).f0)).bind fun t271 => (if t271 = true then (winchlaw21_BusHolds.j2 k2 t238 t240 x7_2 x73_2 t252 l0_0 (l0_0.length : Int) x73_2 false l0_0 l0_1 a0_2 l0_3 l0_4 t239 ((rd_T40 l0_0 x73_2).f0) ((rd_T40 l0_0 x73_2).f1) ((rd_T40 l0_0 x73_2).f2) ((rd_T40 l0_0 x73_2).f3)) else (none))) else (none))) = some r := by rw [if_neg (show ¬ (false = true) by decide)] at H; exact H
        clear H
        have H := H1
        clear H1
        by_cases c49 : ((rd_T43 t238 x73_2).f1) ≥ ((rd_T40 l0_0 x73_2).f3)
        rotate_left
        · rw [if_neg c49] at H
          have c49b0 : decide (((rd_T40 l0_0 x73_2).f3) ≤ ((rd_T43 t238 x73_2).f1)) = false := decide_eq_false c49
          clear c49
          by_cases c61 : x73_2 < (l0_1.length : Int)
          rotate_left
          · rw [if_neg c61] at H
            exact absurd H (by simp)
          rw [if_pos c61] at H
          have c61b0 : decide (x73_2 < (l0_1.length : Int)) = true := decide_eq_true c61
          clear c61
          replace H := Option.bind_eq_some_iff.mp H
          obtain ⟨t271, A620, H⟩ := H
          replace H : (if t271 = true then (winchlaw21_BusHolds.j2 k2 t238 t240 x7_2 x73_2 t252 l0_0 (l0_0.length : Int) x73_2 false l0_0 l0_1 a0_2 l0_3 l0_4 t239 ((rd_T40 l0_0 x73_2).f0) ((rd_T40 l0_0 x73_2).f1) ((rd_T40 l0_0 x73_2).f2) ((rd_T40 l0_0 x73_2).f3)) else (none)) = some r := H
          have A62 := Aside0.mk A620
          clear A620
          by_cases c63 : t271 = true
          rotate_left
          · replace c63 := Bool.eq_false_iff.mpr c63
            subst c63
            have H1 : (none) = some r := by rw [if_neg (show ¬ (false = true) by decide)] at H; exact H
            clear H
            have H := H1
            clear H1
            exact absurd H (by simp)
          subst c63
          have H1 : (winchlaw21_BusHolds.j2 k2 t238 t240 x7_2 x73_2 t252 l0_0 (l0_0.length : Int) x73_2 false l0_0 l0_1 a0_2 l0_3 l0_4 t239 ((rd_T40 l0_0 x73_2).f0) ((rd_T40 l0_0 x73_2).f1) ((rd_T40 l0_0 x73_2).f2) ((rd_T40 l0_0 x73_2).f3)) = some r := by rw [if_pos rfl] at H; exact H
          clear H
          have H := H1
          clear H1
          have H' := Aside0.mk H
          clear H
          try go_wp2
          replace HO_3 := Aside0.mk (Kd.S_drew HO_3.out)
          replace HO_5 := Aside0.mk (Kd.R_drew HO_5.out)
          replace HO_7 := Aside0.mk (Kd.R_drew HO_7.out)
          replace HO254 := Aside0.mk (Kd.R_drew HO254.out)
          replace HL255_0 := Aside0.mk (Kd.R_drew HL255_0.out)
          replace HL255_3 := Aside0.mk (Kd.R_drew HL255_3.out)
          replace BK235 := Aside0.mk (blk_drew BK235.out)
          replace BK246 := Aside0.mk (blk_drew BK246.out)
          replace BK251 := Aside0.mk (blk_drew BK251.out)
          replace HR255_0 := Aside0.mk (Kd.C_drew HR255_0.out)
          replace HR255_3 := Aside0.mk (Kd.C_drew HR255_3.out)
          replace HB := Aside0.mk (below_drew1 HB.out)
          have p256 : 0 ≤ (x73_2 : Int) := of_decide_eq_true xa
          have q256 : x73_2 < (t238.length : Int) := of_decide_eq_true xa
          obtain ⟨ad256, A256_0, c256_0, A256_3, c256_3, e256, hx256_0, hx256_1, hx256_2, hx256_3, hl256_0, hi256_0, hl256_3, hi256_3⟩ := at_T43 (Kd.S_reads' HO_3.out).2.2 x73_2 p256 q256
          obtain rfl : ad255 = ad256 := (by injection e256)
          obtain ⟨ce256, hce256, hMe256, hcc256⟩ := Kd.S_get HO_3.out z43 x73_2 p256 (by first | exact q256 | exact of_decide_eq_true xa | (have e_ := (Kd.S_reads' HO_3.out).1; omega))
          obtain ⟨ve256_0, ve256_3, rfl, ge256_0, ge256_3⟩ := k43_openM hMe256
          have hv256_0 := hcc256 0 _ rfl
          rw [Nat.add_zero] at hv256_0
          replace hv256_0 := Option.some.inj (hv256_0.symm.trans hx256_0)
          rw [hv256_0] at ge256_0
          have HL256_0 := Aside0.mk (show Kd.R (Kd.int .i64) 3 _ _ _ _ ((rd_T43 t238 x73_2).f0) from ge256_0)
          clear hv256_0 ge256_0
          have hv256_3 := hcc256 3 _ rfl
          rw [add_field _ _ 3 (by omega)] at hv256_3
          replace hv256_3 := Option.some.inj (hv256_3.symm.trans hx256_3)
          rw [hv256_3] at ge256_3
          have HL256_3 := Aside0.mk (show Kd.R (Kd.int .i64) 3 _ _ _ _ ((rd_T43 t238 x73_2).f3) from ge256_3)
          clear hv256_3 ge256_3
          clear hcc256 hce256
          have HR256_0 := Aside0.mk hi256_0
          have HC256_0 := Aside0.mk hl256_0
          clear hi256_0 hl256_0
          have HR256_3 := Aside0.mk hi256_3
          have HC256_3 := Aside0.mk hl256_3
          clear hi256_3 hl256_3
          replace p256 := eq_true p256
          replace q256 := eq_true q256
          obtain ⟨Ao65, co65, eo65⟩ := Kd.R_slice HO254.out
          (first | subst eo65 | (injection eo65 with f1_ f2_ f3_; have f4_ := f1_.symm; have f5_ := f3_.symm; clear f1_ f2_ f3_; subst f4_; subst f5_))
          have p269 : 0 ≤ (x73_2 : Int) := of_decide_eq_true xa
          have q269 : x73_2 < (t238.length : Int) := of_decide_eq_true xa
          obtain ⟨ad269, A269_0, c269_0, A269_3, c269_3, e269, hx269_0, hx269_1, hx269_2, hx269_3, hl269_0, hi269_0, hl269_3, hi269_3⟩ := at_T43 (Kd.S_reads' HO_3.out).2.2 x73_2 p269 q269
          obtain rfl : ad255 = ad269 := (by injection e269)
          obtain ⟨ce269, hce269, hMe269, hcc269⟩ := Kd.S_get HO_3.out z43 x73_2 p269 (by first | exact q269 | exact of_decide_eq_true xa | (have e_ := (Kd.S_reads' HO_3.out).1; omega))
          obtain ⟨ve269_0, ve269_3, rfl, ge269_0, ge269_3⟩ := k43_openM hMe269
          have hv269_0 := hcc269 0 _ rfl
          rw [Nat.add_zero] at hv269_0
          replace hv269_0 := Option.some.inj (hv269_0.symm.trans hx269_0)
          rw [hv269_0] at ge269_0
          have HL269_0 := Aside0.mk (show Kd.R (Kd.int .i64) 3 _ _ _ _ ((rd_T43 t238 x73_2).f0) from ge269_0)
          clear hv269_0 ge269_0
          have hv269_3 := hcc269 3 _ rfl
          rw [add_field _ _ 3 (by omega)] at hv269_3
          replace hv269_3 := Option.some.inj (hv269_3.symm.trans hx269_3)
          rw [hv269_3] at ge269_3
          have HL269_3 := Aside0.mk (show Kd.R (Kd.int .i64) 3 _ _ _ _ ((rd_T43 t238 x73_2).f3) from ge269_3)
          clear hv269_3 ge269_3
          clear hcc269 hce269
          have HR269_0 := Aside0.mk hi269_0
          have HC269_0 := Aside0.mk hl269_0
          clear hi269_0 hl269_0
          have HR269_3 := Aside0.mk hi269_3
          have HC269_3 := Aside0.mk hl269_3
          clear hi269_3 hl269_3
          replace p269 := eq_true p269
          replace q269 := eq_true q269
          have ea_ := Option.some.inj (hx256_0.symm.trans hx269_0)
          injection ea_ with ea_ en_ ec_
          subst ea_
          subst ec_
          clear en_
          have ea_ := Option.some.inj (hx256_3.symm.trans hx269_3)
          injection ea_ with ea_ en_ ec_
          subst ea_
          subst ec_
          clear en_
          have p270 : 0 ≤ (x73_2 : Int) := of_decide_eq_true xa
          have q270 : x73_2 < (l0_1.length : Int) := of_decide_eq_true xa
          obtain ⟨ad270, A270_0, c270_0, A270_3, c270_3, e270, hx270_0, hx270_1, hx270_2, hx270_3, hl270_0, hi270_0, hl270_3, hi270_3⟩ := at_T43 HR0_1.out x73_2 p270 q270
          have hw270_3 := hx270_3
          have hw270_2 := hx270_2
          have hw270_1 := hx270_1
          have hw270_0 := hx270_0
          cases e270
          replace hx270_0 := yu HB hx270_0
          replace hx270_1 := yu HB hx270_1
          replace hx270_2 := yu HB hx270_2
          replace hx270_3 := yu HB hx270_3
          have HR270_0 := Aside0.mk hi270_0
          have HC270_0 := Aside0.mk hl270_0
          clear hi270_0 hl270_0
          have HR270_3 := Aside0.mk hi270_3
          have HC270_3 := Aside0.mk hl270_3
          clear hi270_3 hl270_3
          replace p270 := eq_true p270
          replace q270 := eq_true q270
          refine start_ (n := 47) (S := fun w' => w'.cell? ⟨gb235, 0, none⟩ = some (.slice (some ad250) l0_0.length c0_0) ∧ w'.cell? ⟨gb235, 1, none⟩ = some (.slice (some ad270) l0_1.length c0_1) ∧ w'.cell? ⟨gb235, 194, none⟩ = some (.slice A0_3 l0_3.length c0_3) ∧ w'.cell? ⟨gb235, 195, none⟩ = some (.slice A0_4 l0_4.length c0_4) ∧ w'.cell? (ad255.add ((x73_2).toNat * 4)) = some (.slice A256_0 ((rd_T43 t238 x73_2).f0).length c256_0) ∧ w'.cell? ⟨(ad255.add ((x73_2).toNat * 4)).block, (ad255.add ((x73_2).toNat * 4)).off + 1, none⟩ = some (.int .i64 ((rd_T43 t238 x73_2).f1)) ∧ w'.cell? ⟨(ad255.add ((x73_2).toNat * 4)).block, (ad255.add ((x73_2).toNat * 4)).off + 2, none⟩ = some (.int .i64 ((rd_T43 t238 x73_2).f2)) ∧ w'.cell? ⟨(ad255.add ((x73_2).toNat * 4)).block, (ad255.add ((x73_2).toNat * 4)).off + 3, none⟩ = some (.slice A256_3 ((rd_T43 t238 x73_2).f3).length c256_3) ∧ w'.cell? (ad255.add ((x73_2).toNat * 4)) = some (.slice A256_0 ((rd_T43 t238 x73_2).f0).length c256_0) ∧ w'.cell? ⟨(ad255.add ((x73_2).toNat * 4)).block, (ad255.add ((x73_2).toNat * 4)).off + 1, none⟩ = some (.int .i64 ((rd_T43 t238 x73_2).f1)) ∧ w'.cell? ⟨(ad255.add ((x73_2).toNat * 4)).block, (ad255.add ((x73_2).toNat * 4)).off + 2, none⟩ = some (.int .i64 ((rd_T43 t238 x73_2).f2)) ∧ w'.cell? ⟨(ad255.add ((x73_2).toNat * 4)).block, (ad255.add ((x73_2).toNat * 4)).off + 3, none⟩ = some (.slice A256_3 ((rd_T43 t238 x73_2).f3).length c256_3) ∧ w'.cell? (ad270.add ((x73_2).toNat * 4)) = some (.slice A270_0 ((rd_T43 l0_1 x73_2).f0).length c270_0) ∧ w'.cell? ⟨(ad270.add ((x73_2).toNat * 4)).block, (ad270.add ((x73_2).toNat * 4)).off + 1, none⟩ = some (.int .i64 ((rd_T43 l0_1 x73_2).f1)) ∧ w'.cell? ⟨(ad270.add ((x73_2).toNat * 4)).block, (ad270.add ((x73_2).toNat * 4)).off + 2, none⟩ = some (.int .i64 ((rd_T43 l0_1 x73_2).f2)) ∧ w'.cell? ⟨(ad270.add ((x73_2).toNat * 4)).block, (ad270.add ((x73_2).toNat * 4)).off + 3, none⟩ = some (.slice A270_3 ((rd_T43 l0_1 x73_2).f3).length c270_3)) (ds := []) (bz 47 0) (by kernel_rfl) rfl rfl ⟨(blk_cell BK235.out 0).trans (im_ahead _ _ _ rfl), (blk_cell BK235.out 1).trans (im_ahead _ _ _ rfl), (blk_cell BK235.out 194).trans (im_behind _ _ _ 0 rfl rfl), (blk_cell BK235.out 195).trans (im_behind _ _ _ 1 rfl rfl), hx256_0, hx256_1, hx256_2, hx256_3, hx269_0, hx269_1, hx269_2, hx269_3, ((HB.out.cell (World.block_lt_of_cell? w _ hw270_0)).trans hw270_0), ((HB.out.cell (World.block_lt_of_cell? w _ hw270_1)).trans hw270_1), ((HB.out.cell (World.block_lt_of_cell? w _ hw270_2)).trans hw270_2), ((HB.out.cell (World.block_lt_of_cell? w _ hw270_3)).trans hw270_3)⟩ (fun hHeld => ?_); refine with_tabW winchlaw21_BusHolds.tab12 winchlaw21_BusHolds.bits12 (fun HT_ HW_ => ?_)
          generalize w39.drew = w64 at HO_3 HO_5 HO_7 HO254 HL255_0 HL255_3 BK235 BK246 BK251 HR255_0 HR255_3 HB HL256_0 HL256_3 HL269_0 HL269_3 HR256_0 HR256_3 HR269_0 HR269_3 HR270_0 HR270_3 hx256_0 hx256_1 hx256_2 hx256_3 hx269_0 hx269_1 hx269_2 hx269_3 hx270_0 hx270_1 hx270_2 hx270_3 hHeld ⊢
          refine pu1 0 (some 91) (bz 47 1) ?_
          refine pu1 1 (some 92) (bz 47 3) ?_
          refine pu1 2 (some 93) (bz 47 7) ?_
          refine pu1 3 (some 94) (bz 47 15) ?_
          refine pu1 5 (some 96) (bz 47 47) ?_
          refine ta1 4 (some 95) (bz 47 63) ?_
          refine one_ (i := 6) (N := some 97) (bz 47 127) rfl rfl (one_of HT_.out (by kernel_rfl)) (by decide) (fun K hK => ?_)
          refine goes_ Try.func14 (by kernel_rfl) rfl #[.slice A256_0 ((rd_T43 t238 x73_2).f0).length c256_0, .slice Ao65 t252.length co65] (by rfl) rfl rfl xl ?_
          with_reducible refine (winchlaw21_ints.calls k2 _ _ ((rd_T43 t238 x73_2).f0) _ _ t252 false _ ?side1 ?side2 ?side3 ?side4 A41.out).mono ?_
          (case side1 => repeat (first | exact (by repeat (first | (with_reducible exact HR256_0.out) | (with_reducible refine Kd.C_alloc ?_ _) | (with_reducible refine Kd.C_drewN ?_ _) | (with_reducible refine Kd.C_drew ?_) | exact HR256_0.out)) | (with_reducible refine Kd.C_alloc ?_ _) | (with_reducible refine Kd.C_drewN ?_ _) | (with_reducible refine Kd.C_drew ?_)))
          (case side2 => exact HC256_0.out)
          (case side3 => exact xC ((Kd.R_reads' HO254.out).2.2))
          (case side4 => exact (Kd.R_reads' HO254.out).2.1)
          rintro e w' ⟨rfl, ⟨nd, rfl⟩⟩
          refine ⟨_, rfl, ?_⟩
          refine hK.out _ _ ⟨(blk_cell BK235.out 0).trans (im_ahead _ _ _ rfl), (blk_cell BK235.out 1).trans (im_ahead _ _ _ rfl), (blk_cell BK235.out 194).trans (im_behind _ _ _ 0 rfl rfl), (blk_cell BK235.out 195).trans (im_behind _ _ _ 1 rfl rfl), hHeld.2.2.2.2.1, hHeld.2.2.2.2.2.1, hHeld.2.2.2.2.2.2.1, hHeld.2.2.2.2.2.2.2.1, hHeld.2.2.2.2.2.2.2.2.1, hHeld.2.2.2.2.2.2.2.2.2.1, hHeld.2.2.2.2.2.2.2.2.2.2.1, hHeld.2.2.2.2.2.2.2.2.2.2.2.1, ((HB.out.cell (World.block_lt_of_cell? w _ hw270_0)).trans hw270_0), ((HB.out.cell (World.block_lt_of_cell? w _ hw270_1)).trans hw270_1), ((HB.out.cell (World.block_lt_of_cell? w _ hw270_2)).trans hw270_2), ((HB.out.cell (World.block_lt_of_cell? w _ hw270_3)).trans hw270_3)⟩ (fun hHeld => ?_)
          clear hK K
          refine norm_ (a' := ?_) ?_ ?_
          rotate_left
          · show Act.put _ (some 97) _ = _
            simp only [Act.put, List.setIfInBounds_toArray, List.set_cons_zero, List.set_cons_succ, i64_w, i32_w]
            rfl
          refine pu1 7 (some 98) (bz 47 255) ?_
          refine pu1 8 (some 99) (bz 47 511) ?_
          refine pu1 9 (some 100) (bz 47 1023) ?_
          refine pu1 10 (some 101) (bz 47 2047) ?_
          refine pn1 11 (some 102) (bz 47 4095) ?_
          refine pn1 12 (some 103) (bz 47 8191) ?_
          refine pn1 13 (some 104) (bz 47 16383) ?_
          refine pn1 14 (some 105) (bz 47 32767) ?_
          refine pn1 15 (some 106) (bz 47 65535) ?_
          refine pn1 16 (some 107) (bz 47 131071) ?_
          refine pu1 17 (some 108) (bz 47 262143) ?_
          refine pu1 18 (some 109) (bz 47 524287) ?_
          refine pu1 19 (some 110) (bz 47 1048575) ?_
          refine pu1 20 (some 111) (bz 47 2097151) ?_
          refine pu1 21 (some 112) (bz 47 4194303) ?_
          refine pu1 22 (some 113) (bz 47 8388607) ?_
          refine pu1 23 (some 114) (bz 47 16777215) ?_
          refine pu1 24 (some 115) (bz 47 33554431) ?_
          refine pu1 26 (some 117) (bz 47 100663295) ?_
          refine pu1 28 (some 119) (bz 47 369098751) ?_
          refine ta1 25 (some 116) (bz 47 402653183) ?_
          refine ta1 27 (some 118) (bz 47 536870911) ?_
          refine pu1 29 (some 120) (bz 47 1073741823) ?_
          refine pu1 30 (some 121) (bz 47 2147483647) ?_
          refine ta1 31 (some 122) (bz 47 4294967295) ?_
          refine one_ (i := 32) (N := some 123) (bz 47 8589934591) rfl rfl (one_of HT_.out (by kernel_rfl)) (by decide) (fun K hK => ?_)
          refine goes_ Try.func14 (by kernel_rfl) rfl #[.slice A256_0 ((rd_T43 t238 x73_2).f0).length c256_0, .slice A270_0 ((rd_T43 l0_1 x73_2).f0).length c270_0] (by rfl) rfl rfl xl ?_
          with_reducible refine (winchlaw21_ints.calls k2 _ _ ((rd_T43 t238 x73_2).f0) _ _ ((rd_T43 l0_1 x73_2).f0) true _ ?side1 ?side2 ?side3 ?side4 A62.out).mono ?_
          (case side1 => repeat (first | exact (by repeat (first | (with_reducible exact HR269_0.out) | (with_reducible refine Kd.C_alloc ?_ _) | (with_reducible refine Kd.C_drewN ?_ _) | (with_reducible refine Kd.C_drew ?_) | exact HR269_0.out)) | (with_reducible refine Kd.C_alloc ?_ _) | (with_reducible refine Kd.C_drewN ?_ _) | (with_reducible refine Kd.C_drew ?_)))
          (case side2 => exact HC269_0.out)
          (case side3 => exact xC ((Kd.C_below HR270_0.out (xh HB.out))))
          (case side4 => exact HC270_0.out)
          rintro e w' ⟨rfl, ⟨nd, rfl⟩⟩
          refine ⟨_, rfl, ?_⟩
          refine hK.out _ _ ⟨(blk_cell BK235.out 0).trans (im_ahead _ _ _ rfl), (blk_cell BK235.out 1).trans (im_ahead _ _ _ rfl), (blk_cell BK235.out 194).trans (im_behind _ _ _ 0 rfl rfl), (blk_cell BK235.out 195).trans (im_behind _ _ _ 1 rfl rfl), hHeld.2.2.2.2.1, hHeld.2.2.2.2.2.1, hHeld.2.2.2.2.2.2.1, hHeld.2.2.2.2.2.2.2.1, hHeld.2.2.2.2.2.2.2.2.1, hHeld.2.2.2.2.2.2.2.2.2.1, hHeld.2.2.2.2.2.2.2.2.2.2.1, hHeld.2.2.2.2.2.2.2.2.2.2.2.1, ((HB.out.cell (World.block_lt_of_cell? w _ hw270_0)).trans hw270_0), ((HB.out.cell (World.block_lt_of_cell? w _ hw270_1)).trans hw270_1), ((HB.out.cell (World.block_lt_of_cell? w _ hw270_2)).trans hw270_2), ((HB.out.cell (World.block_lt_of_cell? w _ hw270_3)).trans hw270_3)⟩ (fun hHeld => ?_)
          clear hK K
          refine norm_ (a' := ?_) ?_ ?_
          rotate_left
          · show Act.put _ (some 123) _ = _
            simp only [Act.put, List.setIfInBounds_toArray, List.set_cons_zero, List.set_cons_succ, i64_w, i32_w]
            rfl
          refine pu1 33 (some 124) (bz 47 17179869183) ?_
          refine pu1 34 (some 125) (bz 47 34359738367) ?_
          refine pu1 35 (some 126) (bz 47 68719476735) ?_
          refine pu1 36 (some 127) (bz 47 137438953471) ?_
          refine pu1 37 (some 128) (bz 47 274877906943) ?_
          refine pn1 38 (some 129) (bz 47 549755813887) ?_
          refine pn1 39 (some 130) (bz 47 1099511627775) ?_
          refine pn1 40 (some 131) (bz 47 2199023255551) ?_
          refine pn1 41 (some 132) (bz 47 4398046511103) ?_
          refine pn1 42 (some 133) (bz 47 8796093022207) ?_
          refine pn1 43 (some 134) (bz 47 17592186044415) ?_
          refine pn1 44 (some 135) (bz 47 35184372088831) ?_
          refine pu1 45 (some 136) (bz 47 70368744177663) ?_
          refine pu1 46 (some 137) (bz 47 140737488355327) ?_
          refine done_ (done_of HT_.out (by kernel_rfl)) ?_
          try go_wp2
          go_meet
          case rel => exact ⟨(by first | rfl | (congr 1; symm; assumption) | (simp [*]; done)), _, (false), (by first | rfl | (simp; done) | (simp [*]; done) | (refine congrArg (Value.int _) ?_; simp only [xw_u32, xw_u8, i64_w, i32_w]; unfold wrap64; omega)), H', ⟨by have := HJ4.out; have := HK2.out; first | omega | exact Nat.le_refl _⟩, ⟨by (with_reducible repeat (first | apply Kd.S_alloc | apply Kd.S_drewN | apply Kd.S_drew)); exact Kd.S_mono HO_3.out (fun _ hk => hk.2)⟩, ⟨by refine xr ?_; exact HO_5.out⟩, ⟨by refine xr ?_; exact HO_7.out⟩, ⟨by refine xr ?_; exact HO254.out⟩, ⟨by refine xb ?_; exact BK235.out⟩, ⟨by refine xb ?_; exact BK246.out⟩, ⟨by refine xb ?_; exact BK251.out⟩, ⟨by repeat (first | (with_reducible exact HR255_0.out) | (with_reducible refine Kd.C_alloc ?_ _) | (with_reducible refine Kd.C_drewN ?_ _) | (with_reducible refine Kd.C_drew ?_) | exact HR255_0.out)⟩, ⟨by repeat (first | (with_reducible exact HR255_3.out) | (with_reducible refine Kd.C_alloc ?_ _) | (with_reducible refine Kd.C_drewN ?_ _) | (with_reducible refine Kd.C_drew ?_) | exact HR255_3.out)⟩, ⟨by exact xh HB.out⟩⟩
        rw [if_pos c49] at H
        have c49b0 : decide (((rd_T40 l0_0 x73_2).f3) ≤ ((rd_T43 t238 x73_2).f1)) = true := decide_eq_true c49
        clear c49
        replace H := Option.bind_eq_some_iff.mp H
        obtain ⟨t261, A500, H⟩ := H
        replace H : (if t261 = true then ((winchlaw21_zeros.f k2 ((rd_T43 t238 x73_2).f0)).bind fun t263 => (winchlaw21_BusHolds.j2 k2 t238 t240 x7_2 x73_2 t252 l0_0 (l0_0.length : Int) x73_2 (!t263) l0_0 l0_1 a0_2 l0_3 l0_4 t239 ((rd_T40 l0_0 x73_2).f0) ((rd_T40 l0_0 x73_2).f1) ((rd_T40 l0_0 x73_2).f2) ((rd_T40 l0_0 x73_2).f3))) else (if x73_2 < (l0_1.length : Int) then ((winchlaw21_ints.f k2 ((rd_T43 t238 x73_2).f0) ((rd_T43 l0_1 x73_2).f0)).bind fun t266 => (if t266 = true then ((winchlaw21_zeros.f k2 ((rd_T43 t238 x73_2).f0)).bind fun t268 => (winchlaw21_BusHolds.j2 k2 t238 t240 x7_2 x73_2 t252 l0_0 (l0_0.length : Int) x73_2 (!t268) l0_0 l0_1 a0_2 l0_3 l0_4 t239 ((rd_T40 l0_0 x73_2).f0) ((rd_T40 l0_0 x73_2).f1) ((rd_T40 l0_0 x73_2).f2) ((rd_T40 l0_0 x73_2).f3))) else (none))) else (none))) = some r := H
        have A50 := Aside0.mk A500
        clear A500
        by_cases c51 : t261 = true
        · subst c51
          have H1 : ((winchlaw21_zeros.f k2 ((rd_T43 t238 x73_2).f0)).bind fun t263 => (winchlaw21_BusHolds.j2 k2 t238 t240 x7_2 x73_2 t252 l0_0 (l0_0.length : Int) x73_2 (!t263) l0_0 l0_1 a0_2 l0_3 l0_4 t239 ((rd_T40 l0_0 x73_2).f0) ((rd_T40 l0_0 x73_2).f1) ((rd_T40 l0_0 x73_2).f2) ((rd_T40 l0_0 x73_2).f3))) = some r := by rw [if_pos rfl] at H; exact H
          clear H
          have H := H1
          clear H1
          replace H := Option.bind_eq_some_iff.mp H
          obtain ⟨t263, A520, H⟩ := H
          replace H : (winchlaw21_BusHolds.j2 k2 t238 t240 x7_2 x73_2 t252 l0_0 (l0_0.length : Int) x73_2 (!t263) l0_0 l0_1 a0_2 l0_3 l0_4 t239 ((rd_T40 l0_0 x73_2).f0) ((rd_T40 l0_0 x73_2).f1) ((rd_T40 l0_0 x73_2).f2) ((rd_T40 l0_0 x73_2).f3)) = some r := H
          have A52 := Aside0.mk A520
          clear A520
          have H' := Aside0.mk H
          clear H
          try go_wp2
          replace HO_3 := Aside0.mk (Kd.S_drew HO_3.out)
          replace HO_5 := Aside0.mk (Kd.R_drew HO_5.out)
          replace HO_7 := Aside0.mk (Kd.R_drew HO_7.out)
          replace HO254 := Aside0.mk (Kd.R_drew HO254.out)
          replace HL255_0 := Aside0.mk (Kd.R_drew HL255_0.out)
          replace HL255_3 := Aside0.mk (Kd.R_drew HL255_3.out)
          replace BK235 := Aside0.mk (blk_drew BK235.out)
          replace BK246 := Aside0.mk (blk_drew BK246.out)
          replace BK251 := Aside0.mk (blk_drew BK251.out)
          replace HR255_0 := Aside0.mk (Kd.C_drew HR255_0.out)
          replace HR255_3 := Aside0.mk (Kd.C_drew HR255_3.out)
          replace HB := Aside0.mk (below_drew1 HB.out)
          have p256 : 0 ≤ (x73_2 : Int) := of_decide_eq_true xa
          have q256 : x73_2 < (t238.length : Int) := of_decide_eq_true xa
          obtain ⟨ad256, A256_0, c256_0, A256_3, c256_3, e256, hx256_0, hx256_1, hx256_2, hx256_3, hl256_0, hi256_0, hl256_3, hi256_3⟩ := at_T43 (Kd.S_reads' HO_3.out).2.2 x73_2 p256 q256
          obtain rfl : ad255 = ad256 := (by injection e256)
          obtain ⟨ce256, hce256, hMe256, hcc256⟩ := Kd.S_get HO_3.out z43 x73_2 p256 (by first | exact q256 | exact of_decide_eq_true xa | (have e_ := (Kd.S_reads' HO_3.out).1; omega))
          obtain ⟨ve256_0, ve256_3, rfl, ge256_0, ge256_3⟩ := k43_openM hMe256
          have hv256_0 := hcc256 0 _ rfl
          rw [Nat.add_zero] at hv256_0
          replace hv256_0 := Option.some.inj (hv256_0.symm.trans hx256_0)
          rw [hv256_0] at ge256_0
          have HL256_0 := Aside0.mk (show Kd.R (Kd.int .i64) 3 _ _ _ _ ((rd_T43 t238 x73_2).f0) from ge256_0)
          clear hv256_0 ge256_0
          have hv256_3 := hcc256 3 _ rfl
          rw [add_field _ _ 3 (by omega)] at hv256_3
          replace hv256_3 := Option.some.inj (hv256_3.symm.trans hx256_3)
          rw [hv256_3] at ge256_3
          have HL256_3 := Aside0.mk (show Kd.R (Kd.int .i64) 3 _ _ _ _ ((rd_T43 t238 x73_2).f3) from ge256_3)
          clear hv256_3 ge256_3
          clear hcc256 hce256
          have HR256_0 := Aside0.mk hi256_0
          have HC256_0 := Aside0.mk hl256_0
          clear hi256_0 hl256_0
          have HR256_3 := Aside0.mk hi256_3
          have HC256_3 := Aside0.mk hl256_3
          clear hi256_3 hl256_3
          replace p256 := eq_true p256
          replace q256 := eq_true q256
          obtain ⟨Ao54, co54, eo54⟩ := Kd.R_slice HO254.out
          (first | subst eo54 | (injection eo54 with f1_ f2_ f3_; have f4_ := f1_.symm; have f5_ := f3_.symm; clear f1_ f2_ f3_; subst f4_; subst f5_))
          have p260 : 0 ≤ (x73_2 : Int) := of_decide_eq_true xa
          have q260 : x73_2 < (t238.length : Int) := of_decide_eq_true xa
          obtain ⟨ad260, A260_0, c260_0, A260_3, c260_3, e260, hx260_0, hx260_1, hx260_2, hx260_3, hl260_0, hi260_0, hl260_3, hi260_3⟩ := at_T43 (Kd.S_reads' HO_3.out).2.2 x73_2 p260 q260
          obtain rfl : ad255 = ad260 := (by injection e260)
          obtain ⟨ce260, hce260, hMe260, hcc260⟩ := Kd.S_get HO_3.out z43 x73_2 p260 (by first | exact q260 | exact of_decide_eq_true xa | (have e_ := (Kd.S_reads' HO_3.out).1; omega))
          obtain ⟨ve260_0, ve260_3, rfl, ge260_0, ge260_3⟩ := k43_openM hMe260
          have hv260_0 := hcc260 0 _ rfl
          rw [Nat.add_zero] at hv260_0
          replace hv260_0 := Option.some.inj (hv260_0.symm.trans hx260_0)
          rw [hv260_0] at ge260_0
          have HL260_0 := Aside0.mk (show Kd.R (Kd.int .i64) 3 _ _ _ _ ((rd_T43 t238 x73_2).f0) from ge260_0)
          clear hv260_0 ge260_0
          have hv260_3 := hcc260 3 _ rfl
          rw [add_field _ _ 3 (by omega)] at hv260_3
          replace hv260_3 := Option.some.inj (hv260_3.symm.trans hx260_3)
          rw [hv260_3] at ge260_3
          have HL260_3 := Aside0.mk (show Kd.R (Kd.int .i64) 3 _ _ _ _ ((rd_T43 t238 x73_2).f3) from ge260_3)
          clear hv260_3 ge260_3
          clear hcc260 hce260
          have HR260_0 := Aside0.mk hi260_0
          have HC260_0 := Aside0.mk hl260_0
          clear hi260_0 hl260_0
          have HR260_3 := Aside0.mk hi260_3
          have HC260_3 := Aside0.mk hl260_3
          clear hi260_3 hl260_3
          replace p260 := eq_true p260
          replace q260 := eq_true q260
          have ea_ := Option.some.inj (hx256_0.symm.trans hx260_0)
          injection ea_ with ea_ en_ ec_
          subst ea_
          subst ec_
          clear en_
          have ea_ := Option.some.inj (hx256_3.symm.trans hx260_3)
          injection ea_ with ea_ en_ ec_
          subst ea_
          subst ec_
          clear en_
          have p262 : 0 ≤ (x73_2 : Int) := of_decide_eq_true xa
          have q262 : x73_2 < (t238.length : Int) := of_decide_eq_true xa
          obtain ⟨ad262, A262_0, c262_0, A262_3, c262_3, e262, hx262_0, hx262_1, hx262_2, hx262_3, hl262_0, hi262_0, hl262_3, hi262_3⟩ := at_T43 (Kd.S_reads' HO_3.out).2.2 x73_2 p262 q262
          obtain rfl : ad255 = ad262 := (by injection e262)
          obtain ⟨ce262, hce262, hMe262, hcc262⟩ := Kd.S_get HO_3.out z43 x73_2 p262 (by first | exact q262 | exact of_decide_eq_true xa | (have e_ := (Kd.S_reads' HO_3.out).1; omega))
          obtain ⟨ve262_0, ve262_3, rfl, ge262_0, ge262_3⟩ := k43_openM hMe262
          have hv262_0 := hcc262 0 _ rfl
          rw [Nat.add_zero] at hv262_0
          replace hv262_0 := Option.some.inj (hv262_0.symm.trans hx262_0)
          rw [hv262_0] at ge262_0
          have HL262_0 := Aside0.mk (show Kd.R (Kd.int .i64) 3 _ _ _ _ ((rd_T43 t238 x73_2).f0) from ge262_0)
          clear hv262_0 ge262_0
          have hv262_3 := hcc262 3 _ rfl
          rw [add_field _ _ 3 (by omega)] at hv262_3
          replace hv262_3 := Option.some.inj (hv262_3.symm.trans hx262_3)
          rw [hv262_3] at ge262_3
          have HL262_3 := Aside0.mk (show Kd.R (Kd.int .i64) 3 _ _ _ _ ((rd_T43 t238 x73_2).f3) from ge262_3)
          clear hv262_3 ge262_3
          clear hcc262 hce262
          have HR262_0 := Aside0.mk hi262_0
          have HC262_0 := Aside0.mk hl262_0
          clear hi262_0 hl262_0
          have HR262_3 := Aside0.mk hi262_3
          have HC262_3 := Aside0.mk hl262_3
          clear hi262_3 hl262_3
          replace p262 := eq_true p262
          replace q262 := eq_true q262
          have ea_ := Option.some.inj (hx256_0.symm.trans hx262_0)
          injection ea_ with ea_ en_ ec_
          subst ea_
          subst ec_
          clear en_
          have ea_ := Option.some.inj (hx256_3.symm.trans hx262_3)
          injection ea_ with ea_ en_ ec_
          subst ea_
          subst ec_
          clear en_
          refine start_ (n := 47) (S := fun w' => w'.cell? (ad255.add ((x73_2).toNat * 4)) = some (.slice A256_0 ((rd_T43 t238 x73_2).f0).length c256_0) ∧ w'.cell? ⟨(ad255.add ((x73_2).toNat * 4)).block, (ad255.add ((x73_2).toNat * 4)).off + 1, none⟩ = some (.int .i64 ((rd_T43 t238 x73_2).f1)) ∧ w'.cell? ⟨(ad255.add ((x73_2).toNat * 4)).block, (ad255.add ((x73_2).toNat * 4)).off + 2, none⟩ = some (.int .i64 ((rd_T43 t238 x73_2).f2)) ∧ w'.cell? ⟨(ad255.add ((x73_2).toNat * 4)).block, (ad255.add ((x73_2).toNat * 4)).off + 3, none⟩ = some (.slice A256_3 ((rd_T43 t238 x73_2).f3).length c256_3) ∧ w'.cell? (ad255.add ((x73_2).toNat * 4)) = some (.slice A256_0 ((rd_T43 t238 x73_2).f0).length c256_0) ∧ w'.cell? ⟨(ad255.add ((x73_2).toNat * 4)).block, (ad255.add ((x73_2).toNat * 4)).off + 1, none⟩ = some (.int .i64 ((rd_T43 t238 x73_2).f1)) ∧ w'.cell? ⟨(ad255.add ((x73_2).toNat * 4)).block, (ad255.add ((x73_2).toNat * 4)).off + 2, none⟩ = some (.int .i64 ((rd_T43 t238 x73_2).f2)) ∧ w'.cell? ⟨(ad255.add ((x73_2).toNat * 4)).block, (ad255.add ((x73_2).toNat * 4)).off + 3, none⟩ = some (.slice A256_3 ((rd_T43 t238 x73_2).f3).length c256_3) ∧ w'.cell? (ad255.add ((x73_2).toNat * 4)) = some (.slice A256_0 ((rd_T43 t238 x73_2).f0).length c256_0) ∧ w'.cell? ⟨(ad255.add ((x73_2).toNat * 4)).block, (ad255.add ((x73_2).toNat * 4)).off + 1, none⟩ = some (.int .i64 ((rd_T43 t238 x73_2).f1)) ∧ w'.cell? ⟨(ad255.add ((x73_2).toNat * 4)).block, (ad255.add ((x73_2).toNat * 4)).off + 2, none⟩ = some (.int .i64 ((rd_T43 t238 x73_2).f2)) ∧ w'.cell? ⟨(ad255.add ((x73_2).toNat * 4)).block, (ad255.add ((x73_2).toNat * 4)).off + 3, none⟩ = some (.slice A256_3 ((rd_T43 t238 x73_2).f3).length c256_3)) (ds := []) (bz 47 0) (by kernel_rfl) rfl rfl ⟨hx256_0, hx256_1, hx256_2, hx256_3, hx260_0, hx260_1, hx260_2, hx260_3, hx262_0, hx262_1, hx262_2, hx262_3⟩ (fun hHeld => ?_); refine with_tabW winchlaw21_BusHolds.tab12 winchlaw21_BusHolds.bits12 (fun HT_ HW_ => ?_)
          generalize w39.drew = w53 at HO_3 HO_5 HO_7 HO254 HL255_0 HL255_3 BK235 BK246 BK251 HR255_0 HR255_3 HB HL256_0 HL256_3 HL260_0 HL260_3 HL262_0 HL262_3 HR256_0 HR256_3 HR260_0 HR260_3 HR262_0 HR262_3 hx256_0 hx256_1 hx256_2 hx256_3 hx260_0 hx260_1 hx260_2 hx260_3 hx262_0 hx262_1 hx262_2 hx262_3 hHeld ⊢
          refine pu1 0 (some 91) (bz 47 1) ?_
          refine pu1 1 (some 92) (bz 47 3) ?_
          refine pu1 2 (some 93) (bz 47 7) ?_
          refine pu1 3 (some 94) (bz 47 15) ?_
          refine pu1 5 (some 96) (bz 47 47) ?_
          refine ta1 4 (some 95) (bz 47 63) ?_
          refine one_ (i := 6) (N := some 97) (bz 47 127) rfl rfl (one_of HT_.out (by kernel_rfl)) (by decide) (fun K hK => ?_)
          refine goes_ Try.func14 (by kernel_rfl) rfl #[.slice A256_0 ((rd_T43 t238 x73_2).f0).length c256_0, .slice Ao54 t252.length co54] (by rfl) rfl rfl xl ?_
          with_reducible refine (winchlaw21_ints.calls k2 _ _ ((rd_T43 t238 x73_2).f0) _ _ t252 false _ ?side1 ?side2 ?side3 ?side4 A41.out).mono ?_
          (case side1 => repeat (first | exact (by repeat (first | (with_reducible exact HR256_0.out) | (with_reducible refine Kd.C_alloc ?_ _) | (with_reducible refine Kd.C_drewN ?_ _) | (with_reducible refine Kd.C_drew ?_) | exact HR256_0.out)) | (with_reducible refine Kd.C_alloc ?_ _) | (with_reducible refine Kd.C_drewN ?_ _) | (with_reducible refine Kd.C_drew ?_)))
          (case side2 => exact HC256_0.out)
          (case side3 => exact xC ((Kd.R_reads' HO254.out).2.2))
          (case side4 => exact (Kd.R_reads' HO254.out).2.1)
          rintro e w' ⟨rfl, ⟨nd, rfl⟩⟩
          refine ⟨_, rfl, ?_⟩
          refine hK.out _ _ ⟨hHeld.1, hHeld.2.1, hHeld.2.2.1, hHeld.2.2.2.1, hHeld.2.2.2.2.1, hHeld.2.2.2.2.2.1, hHeld.2.2.2.2.2.2.1, hHeld.2.2.2.2.2.2.2.1, hHeld.2.2.2.2.2.2.2.2.1, hHeld.2.2.2.2.2.2.2.2.2.1, hHeld.2.2.2.2.2.2.2.2.2.2.1, hHeld.2.2.2.2.2.2.2.2.2.2.2⟩ (fun hHeld => ?_)
          clear hK K
          refine norm_ (a' := ?_) ?_ ?_
          rotate_left
          · show Act.put _ (some 97) _ = _
            simp only [Act.put, List.setIfInBounds_toArray, List.set_cons_zero, List.set_cons_succ, i64_w, i32_w]
            rfl
          refine pu1 7 (some 98) (bz 47 255) ?_
          refine pu1 8 (some 99) (bz 47 511) ?_
          refine pu1 9 (some 100) (bz 47 1023) ?_
          refine pu1 10 (some 101) (bz 47 2047) ?_
          refine pu1 11 (some 102) (bz 47 4095) ?_
          refine pu1 12 (some 103) (bz 47 8191) ?_
          refine pu1 13 (some 104) (bz 47 16383) ?_
          refine pu1 14 (some 105) (bz 47 32767) ?_
          refine ta1 15 (some 106) (bz 47 65535) ?_
          refine one_ (i := 16) (N := some 107) (bz 47 131071) rfl rfl (one_of HT_.out (by kernel_rfl)) (by decide) (fun K hK => ?_)
          refine goes_ Try.func15 (by kernel_rfl) rfl #[.slice A256_0 ((rd_T43 t238 x73_2).f0).length c256_0] (by rfl) rfl rfl xl ?_
          with_reducible refine (winchlaw21_zeros.calls k2 _ _ ((rd_T43 t238 x73_2).f0) true _ ?side1 ?side2 A50.out).mono ?_
          (case side1 => repeat (first | exact (by repeat (first | (with_reducible exact HR260_0.out) | (with_reducible refine Kd.C_alloc ?_ _) | (with_reducible refine Kd.C_drewN ?_ _) | (with_reducible refine Kd.C_drew ?_) | exact HR260_0.out)) | (with_reducible refine Kd.C_alloc ?_ _) | (with_reducible refine Kd.C_drewN ?_ _) | (with_reducible refine Kd.C_drew ?_)))
          (case side2 => exact HC260_0.out)
          rintro e w' ⟨rfl, ⟨nd, rfl⟩⟩
          refine ⟨_, rfl, ?_⟩
          refine hK.out _ _ ⟨hHeld.1, hHeld.2.1, hHeld.2.2.1, hHeld.2.2.2.1, hHeld.2.2.2.2.1, hHeld.2.2.2.2.2.1, hHeld.2.2.2.2.2.2.1, hHeld.2.2.2.2.2.2.2.1, hHeld.2.2.2.2.2.2.2.2.1, hHeld.2.2.2.2.2.2.2.2.2.1, hHeld.2.2.2.2.2.2.2.2.2.2.1, hHeld.2.2.2.2.2.2.2.2.2.2.2⟩ (fun hHeld => ?_)
          clear hK K
          refine norm_ (a' := ?_) ?_ ?_
          rotate_left
          · show Act.put _ (some 107) _ = _
            simp only [Act.put, List.setIfInBounds_toArray, List.set_cons_zero, List.set_cons_succ, i64_w, i32_w]
            rfl
          refine pu1 17 (some 108) (bz 47 262143) ?_
          refine pu1 18 (some 109) (bz 47 524287) ?_
          refine pu1 19 (some 110) (bz 47 1048575) ?_
          refine pu1 20 (some 111) (bz 47 2097151) ?_
          refine pn1 21 (some 112) (bz 47 4194303) ?_
          refine pn1 22 (some 113) (bz 47 8388607) ?_
          refine pn1 23 (some 114) (bz 47 16777215) ?_
          refine pn1 24 (some 115) (bz 47 33554431) ?_
          refine pn1 25 (some 116) (bz 47 67108863) ?_
          refine pn1 26 (some 117) (bz 47 134217727) ?_
          refine pn1 27 (some 118) (bz 47 268435455) ?_
          refine pn1 28 (some 119) (bz 47 536870911) ?_
          refine pn1 29 (some 120) (bz 47 1073741823) ?_
          refine pn1 30 (some 121) (bz 47 2147483647) ?_
          refine pn1 31 (some 122) (bz 47 4294967295) ?_
          refine pn1 32 (some 123) (bz 47 8589934591) ?_
          refine pn1 33 (some 124) (bz 47 17179869183) ?_
          refine pu1 34 (some 125) (bz 47 34359738367) ?_
          refine pu1 35 (some 126) (bz 47 68719476735) ?_
          refine pu1 36 (some 127) (bz 47 137438953471) ?_
          refine pu1 37 (some 128) (bz 47 274877906943) ?_
          refine pu1 38 (some 129) (bz 47 549755813887) ?_
          refine pu1 39 (some 130) (bz 47 1099511627775) ?_
          refine pu1 40 (some 131) (bz 47 2199023255551) ?_
          refine pu1 41 (some 132) (bz 47 4398046511103) ?_
          refine ta1 42 (some 133) (bz 47 8796093022207) ?_
          refine one_ (i := 43) (N := some 134) (bz 47 17592186044415) rfl rfl (one_of HT_.out (by kernel_rfl)) (by decide) (fun K hK => ?_)
          refine goes_ Try.func15 (by kernel_rfl) rfl #[.slice A256_0 ((rd_T43 t238 x73_2).f0).length c256_0] (by rfl) rfl rfl xl ?_
          with_reducible refine (winchlaw21_zeros.calls k2 _ _ ((rd_T43 t238 x73_2).f0) t263 _ ?side1 ?side2 A52.out).mono ?_
          (case side1 => repeat (first | exact (by repeat (first | (with_reducible exact HR262_0.out) | (with_reducible refine Kd.C_alloc ?_ _) | (with_reducible refine Kd.C_drewN ?_ _) | (with_reducible refine Kd.C_drew ?_) | exact HR262_0.out)) | (with_reducible refine Kd.C_alloc ?_ _) | (with_reducible refine Kd.C_drewN ?_ _) | (with_reducible refine Kd.C_drew ?_)))
          (case side2 => exact HC262_0.out)
          rintro e w' ⟨rfl, ⟨nd, rfl⟩⟩
          refine ⟨_, rfl, ?_⟩
          refine hK.out _ _ ⟨hHeld.1, hHeld.2.1, hHeld.2.2.1, hHeld.2.2.2.1, hHeld.2.2.2.2.1, hHeld.2.2.2.2.2.1, hHeld.2.2.2.2.2.2.1, hHeld.2.2.2.2.2.2.2.1, hHeld.2.2.2.2.2.2.2.2.1, hHeld.2.2.2.2.2.2.2.2.2.1, hHeld.2.2.2.2.2.2.2.2.2.2.1, hHeld.2.2.2.2.2.2.2.2.2.2.2⟩ (fun hHeld => ?_)
          clear hK K
          refine norm_ (a' := ?_) ?_ ?_
          rotate_left
          · show Act.put _ (some 134) _ = _
            simp only [Act.put, List.setIfInBounds_toArray, List.set_cons_zero, List.set_cons_succ, i64_w, i32_w]
            rfl
          refine pu1 44 (some 135) (bz 47 35184372088831) ?_
          refine pu1 45 (some 136) (bz 47 70368744177663) ?_
          refine pu1 46 (some 137) (bz 47 140737488355327) ?_
          refine done_ (done_of HT_.out (by kernel_rfl)) ?_
          try go_wp2
          go_meet
          case rel => exact ⟨(by first | rfl | (congr 1; symm; assumption) | (simp [*]; done)), _, (!t263), (by first | rfl | (simp; done) | (simp [*]; done) | (refine congrArg (Value.int _) ?_; simp only [xw_u32, xw_u8, i64_w, i32_w]; unfold wrap64; omega)), H', ⟨by have := HJ4.out; have := HK2.out; first | omega | exact Nat.le_refl _⟩, ⟨by (with_reducible repeat (first | apply Kd.S_alloc | apply Kd.S_drewN | apply Kd.S_drew)); exact Kd.S_mono HO_3.out (fun _ hk => hk.2)⟩, ⟨by refine xr ?_; exact HO_5.out⟩, ⟨by refine xr ?_; exact HO_7.out⟩, ⟨by refine xr ?_; exact HO254.out⟩, ⟨by refine xb ?_; exact BK235.out⟩, ⟨by refine xb ?_; exact BK246.out⟩, ⟨by refine xb ?_; exact BK251.out⟩, ⟨by repeat (first | (with_reducible exact HR255_0.out) | (with_reducible refine Kd.C_alloc ?_ _) | (with_reducible refine Kd.C_drewN ?_ _) | (with_reducible refine Kd.C_drew ?_) | exact HR255_0.out)⟩, ⟨by repeat (first | (with_reducible exact HR255_3.out) | (with_reducible refine Kd.C_alloc ?_ _) | (with_reducible refine Kd.C_drewN ?_ _) | (with_reducible refine Kd.C_drew ?_) | exact HR255_3.out)⟩, ⟨by exact xh HB.out⟩⟩
        replace c51 := Bool.eq_false_iff.mpr c51
        subst c51
        have H1 : (if x73_2 < (l0_1.length : Int) then ((winchlaw21_ints.f k2 ((rd_T43 t238 x73_2).f0) ((rd_T43 l0_1 x73_2).f0)).bind fun t266 => (if t266 = true then ((winchlaw21_zeros.f k2 ((rd_T43 t238 x73_2).f0)).bind fun t268 => (winchlaw21_BusHolds.j2 k2 t238 t240 x7_2 x73_2 t252 l0_0 (l0_0.length : Int) x73_2 (!t268) l0_0 l0_1 a0_2 l0_3 l0_4 t239 ((rd_T40 l0_0 x73_2).f0) ((rd_T40 l0_0 x73_2).f1) ((rd_T40 l0_0 x73_2).f2) ((rd_T40 l0_0 x73_2).f3))) else (none))) else (none)) = some r := by rw [if_neg (show ¬ (false = true) by decide)] at H; exact H
        clear H
        have H := H1
        clear H1
        by_cases c55 : x73_2 < (l0_1.length : Int)
        rotate_left
        · rw [if_neg c55] at H
          exact absurd H (by simp)
        rw [if_pos c55] at H
        have c55b0 : decide (x73_2 < (l0_1.length : Int)) = true := decide_eq_true c55
        clear c55
        replace H := Option.bind_eq_some_iff.mp H
        obtain ⟨t266, A560, H⟩ := H
        replace H : (if t266 = true then ((winchlaw21_zeros.f k2 ((rd_T43 t238 x73_2).f0)).bind fun t268 => (winchlaw21_BusHolds.j2 k2 t238 t240 x7_2 x73_2 t252 l0_0 (l0_0.length : Int) x73_2 (!t268) l0_0 l0_1 a0_2 l0_3 l0_4 t239 ((rd_T40 l0_0 x73_2).f0) ((rd_T40 l0_0 x73_2).f1) ((rd_T40 l0_0 x73_2).f2) ((rd_T40 l0_0 x73_2).f3))) else (none)) = some r := H
        have A56 := Aside0.mk A560
        clear A560
        by_cases c57 : t266 = true
        rotate_left
        · replace c57 := Bool.eq_false_iff.mpr c57
          subst c57
          have H1 : (none) = some r := by rw [if_neg (show ¬ (false = true) by decide)] at H; exact H
          clear H
          have H := H1
          clear H1
          exact absurd H (by simp)
        subst c57
        have H1 : ((winchlaw21_zeros.f k2 ((rd_T43 t238 x73_2).f0)).bind fun t268 => (winchlaw21_BusHolds.j2 k2 t238 t240 x7_2 x73_2 t252 l0_0 (l0_0.length : Int) x73_2 (!t268) l0_0 l0_1 a0_2 l0_3 l0_4 t239 ((rd_T40 l0_0 x73_2).f0) ((rd_T40 l0_0 x73_2).f1) ((rd_T40 l0_0 x73_2).f2) ((rd_T40 l0_0 x73_2).f3))) = some r := by rw [if_pos rfl] at H; exact H
        clear H
        have H := H1
        clear H1
        replace H := Option.bind_eq_some_iff.mp H
        obtain ⟨t268, A580, H⟩ := H
        replace H : (winchlaw21_BusHolds.j2 k2 t238 t240 x7_2 x73_2 t252 l0_0 (l0_0.length : Int) x73_2 (!t268) l0_0 l0_1 a0_2 l0_3 l0_4 t239 ((rd_T40 l0_0 x73_2).f0) ((rd_T40 l0_0 x73_2).f1) ((rd_T40 l0_0 x73_2).f2) ((rd_T40 l0_0 x73_2).f3)) = some r := H
        have A58 := Aside0.mk A580
        clear A580
        have H' := Aside0.mk H
        clear H
        try go_wp2
        replace HO_3 := Aside0.mk (Kd.S_drew HO_3.out)
        replace HO_5 := Aside0.mk (Kd.R_drew HO_5.out)
        replace HO_7 := Aside0.mk (Kd.R_drew HO_7.out)
        replace HO254 := Aside0.mk (Kd.R_drew HO254.out)
        replace HL255_0 := Aside0.mk (Kd.R_drew HL255_0.out)
        replace HL255_3 := Aside0.mk (Kd.R_drew HL255_3.out)
        replace BK235 := Aside0.mk (blk_drew BK235.out)
        replace BK246 := Aside0.mk (blk_drew BK246.out)
        replace BK251 := Aside0.mk (blk_drew BK251.out)
        replace HR255_0 := Aside0.mk (Kd.C_drew HR255_0.out)
        replace HR255_3 := Aside0.mk (Kd.C_drew HR255_3.out)
        replace HB := Aside0.mk (below_drew1 HB.out)
        have p256 : 0 ≤ (x73_2 : Int) := of_decide_eq_true xa
        have q256 : x73_2 < (t238.length : Int) := of_decide_eq_true xa
        obtain ⟨ad256, A256_0, c256_0, A256_3, c256_3, e256, hx256_0, hx256_1, hx256_2, hx256_3, hl256_0, hi256_0, hl256_3, hi256_3⟩ := at_T43 (Kd.S_reads' HO_3.out).2.2 x73_2 p256 q256
        obtain rfl : ad255 = ad256 := (by injection e256)
        obtain ⟨ce256, hce256, hMe256, hcc256⟩ := Kd.S_get HO_3.out z43 x73_2 p256 (by first | exact q256 | exact of_decide_eq_true xa | (have e_ := (Kd.S_reads' HO_3.out).1; omega))
        obtain ⟨ve256_0, ve256_3, rfl, ge256_0, ge256_3⟩ := k43_openM hMe256
        have hv256_0 := hcc256 0 _ rfl
        rw [Nat.add_zero] at hv256_0
        replace hv256_0 := Option.some.inj (hv256_0.symm.trans hx256_0)
        rw [hv256_0] at ge256_0
        have HL256_0 := Aside0.mk (show Kd.R (Kd.int .i64) 3 _ _ _ _ ((rd_T43 t238 x73_2).f0) from ge256_0)
        clear hv256_0 ge256_0
        have hv256_3 := hcc256 3 _ rfl
        rw [add_field _ _ 3 (by omega)] at hv256_3
        replace hv256_3 := Option.some.inj (hv256_3.symm.trans hx256_3)
        rw [hv256_3] at ge256_3
        have HL256_3 := Aside0.mk (show Kd.R (Kd.int .i64) 3 _ _ _ _ ((rd_T43 t238 x73_2).f3) from ge256_3)
        clear hv256_3 ge256_3
        clear hcc256 hce256
        have HR256_0 := Aside0.mk hi256_0
        have HC256_0 := Aside0.mk hl256_0
        clear hi256_0 hl256_0
        have HR256_3 := Aside0.mk hi256_3
        have HC256_3 := Aside0.mk hl256_3
        clear hi256_3 hl256_3
        replace p256 := eq_true p256
        replace q256 := eq_true q256
        obtain ⟨Ao60, co60, eo60⟩ := Kd.R_slice HO254.out
        (first | subst eo60 | (injection eo60 with f1_ f2_ f3_; have f4_ := f1_.symm; have f5_ := f3_.symm; clear f1_ f2_ f3_; subst f4_; subst f5_))
        have p260 : 0 ≤ (x73_2 : Int) := of_decide_eq_true xa
        have q260 : x73_2 < (t238.length : Int) := of_decide_eq_true xa
        obtain ⟨ad260, A260_0, c260_0, A260_3, c260_3, e260, hx260_0, hx260_1, hx260_2, hx260_3, hl260_0, hi260_0, hl260_3, hi260_3⟩ := at_T43 (Kd.S_reads' HO_3.out).2.2 x73_2 p260 q260
        obtain rfl : ad255 = ad260 := (by injection e260)
        obtain ⟨ce260, hce260, hMe260, hcc260⟩ := Kd.S_get HO_3.out z43 x73_2 p260 (by first | exact q260 | exact of_decide_eq_true xa | (have e_ := (Kd.S_reads' HO_3.out).1; omega))
        obtain ⟨ve260_0, ve260_3, rfl, ge260_0, ge260_3⟩ := k43_openM hMe260
        have hv260_0 := hcc260 0 _ rfl
        rw [Nat.add_zero] at hv260_0
        replace hv260_0 := Option.some.inj (hv260_0.symm.trans hx260_0)
        rw [hv260_0] at ge260_0
        have HL260_0 := Aside0.mk (show Kd.R (Kd.int .i64) 3 _ _ _ _ ((rd_T43 t238 x73_2).f0) from ge260_0)
        clear hv260_0 ge260_0
        have hv260_3 := hcc260 3 _ rfl
        rw [add_field _ _ 3 (by omega)] at hv260_3
        replace hv260_3 := Option.some.inj (hv260_3.symm.trans hx260_3)
        rw [hv260_3] at ge260_3
        have HL260_3 := Aside0.mk (show Kd.R (Kd.int .i64) 3 _ _ _ _ ((rd_T43 t238 x73_2).f3) from ge260_3)
        clear hv260_3 ge260_3
        clear hcc260 hce260
        have HR260_0 := Aside0.mk hi260_0
        have HC260_0 := Aside0.mk hl260_0
        clear hi260_0 hl260_0
        have HR260_3 := Aside0.mk hi260_3
        have HC260_3 := Aside0.mk hl260_3
        clear hi260_3 hl260_3
        replace p260 := eq_true p260
        replace q260 := eq_true q260
        have ea_ := Option.some.inj (hx256_0.symm.trans hx260_0)
        injection ea_ with ea_ en_ ec_
        subst ea_
        subst ec_
        clear en_
        have ea_ := Option.some.inj (hx256_3.symm.trans hx260_3)
        injection ea_ with ea_ en_ ec_
        subst ea_
        subst ec_
        clear en_
        have p264 : 0 ≤ (x73_2 : Int) := of_decide_eq_true xa
        have q264 : x73_2 < (t238.length : Int) := of_decide_eq_true xa
        obtain ⟨ad264, A264_0, c264_0, A264_3, c264_3, e264, hx264_0, hx264_1, hx264_2, hx264_3, hl264_0, hi264_0, hl264_3, hi264_3⟩ := at_T43 (Kd.S_reads' HO_3.out).2.2 x73_2 p264 q264
        obtain rfl : ad255 = ad264 := (by injection e264)
        obtain ⟨ce264, hce264, hMe264, hcc264⟩ := Kd.S_get HO_3.out z43 x73_2 p264 (by first | exact q264 | exact of_decide_eq_true xa | (have e_ := (Kd.S_reads' HO_3.out).1; omega))
        obtain ⟨ve264_0, ve264_3, rfl, ge264_0, ge264_3⟩ := k43_openM hMe264
        have hv264_0 := hcc264 0 _ rfl
        rw [Nat.add_zero] at hv264_0
        replace hv264_0 := Option.some.inj (hv264_0.symm.trans hx264_0)
        rw [hv264_0] at ge264_0
        have HL264_0 := Aside0.mk (show Kd.R (Kd.int .i64) 3 _ _ _ _ ((rd_T43 t238 x73_2).f0) from ge264_0)
        clear hv264_0 ge264_0
        have hv264_3 := hcc264 3 _ rfl
        rw [add_field _ _ 3 (by omega)] at hv264_3
        replace hv264_3 := Option.some.inj (hv264_3.symm.trans hx264_3)
        rw [hv264_3] at ge264_3
        have HL264_3 := Aside0.mk (show Kd.R (Kd.int .i64) 3 _ _ _ _ ((rd_T43 t238 x73_2).f3) from ge264_3)
        clear hv264_3 ge264_3
        clear hcc264 hce264
        have HR264_0 := Aside0.mk hi264_0
        have HC264_0 := Aside0.mk hl264_0
        clear hi264_0 hl264_0
        have HR264_3 := Aside0.mk hi264_3
        have HC264_3 := Aside0.mk hl264_3
        clear hi264_3 hl264_3
        replace p264 := eq_true p264
        replace q264 := eq_true q264
        have ea_ := Option.some.inj (hx256_0.symm.trans hx264_0)
        injection ea_ with ea_ en_ ec_
        subst ea_
        subst ec_
        clear en_
        have ea_ := Option.some.inj (hx256_3.symm.trans hx264_3)
        injection ea_ with ea_ en_ ec_
        subst ea_
        subst ec_
        clear en_
        have p265 : 0 ≤ (x73_2 : Int) := of_decide_eq_true xa
        have q265 : x73_2 < (l0_1.length : Int) := of_decide_eq_true xa
        obtain ⟨ad265, A265_0, c265_0, A265_3, c265_3, e265, hx265_0, hx265_1, hx265_2, hx265_3, hl265_0, hi265_0, hl265_3, hi265_3⟩ := at_T43 HR0_1.out x73_2 p265 q265
        have hw265_3 := hx265_3
        have hw265_2 := hx265_2
        have hw265_1 := hx265_1
        have hw265_0 := hx265_0
        cases e265
        replace hx265_0 := yu HB hx265_0
        replace hx265_1 := yu HB hx265_1
        replace hx265_2 := yu HB hx265_2
        replace hx265_3 := yu HB hx265_3
        have HR265_0 := Aside0.mk hi265_0
        have HC265_0 := Aside0.mk hl265_0
        clear hi265_0 hl265_0
        have HR265_3 := Aside0.mk hi265_3
        have HC265_3 := Aside0.mk hl265_3
        clear hi265_3 hl265_3
        replace p265 := eq_true p265
        replace q265 := eq_true q265
        have p267 : 0 ≤ (x73_2 : Int) := of_decide_eq_true xa
        have q267 : x73_2 < (t238.length : Int) := of_decide_eq_true xa
        obtain ⟨ad267, A267_0, c267_0, A267_3, c267_3, e267, hx267_0, hx267_1, hx267_2, hx267_3, hl267_0, hi267_0, hl267_3, hi267_3⟩ := at_T43 (Kd.S_reads' HO_3.out).2.2 x73_2 p267 q267
        obtain rfl : ad255 = ad267 := (by injection e267)
        obtain ⟨ce267, hce267, hMe267, hcc267⟩ := Kd.S_get HO_3.out z43 x73_2 p267 (by first | exact q267 | exact of_decide_eq_true xa | (have e_ := (Kd.S_reads' HO_3.out).1; omega))
        obtain ⟨ve267_0, ve267_3, rfl, ge267_0, ge267_3⟩ := k43_openM hMe267
        have hv267_0 := hcc267 0 _ rfl
        rw [Nat.add_zero] at hv267_0
        replace hv267_0 := Option.some.inj (hv267_0.symm.trans hx267_0)
        rw [hv267_0] at ge267_0
        have HL267_0 := Aside0.mk (show Kd.R (Kd.int .i64) 3 _ _ _ _ ((rd_T43 t238 x73_2).f0) from ge267_0)
        clear hv267_0 ge267_0
        have hv267_3 := hcc267 3 _ rfl
        rw [add_field _ _ 3 (by omega)] at hv267_3
        replace hv267_3 := Option.some.inj (hv267_3.symm.trans hx267_3)
        rw [hv267_3] at ge267_3
        have HL267_3 := Aside0.mk (show Kd.R (Kd.int .i64) 3 _ _ _ _ ((rd_T43 t238 x73_2).f3) from ge267_3)
        clear hv267_3 ge267_3
        clear hcc267 hce267
        have HR267_0 := Aside0.mk hi267_0
        have HC267_0 := Aside0.mk hl267_0
        clear hi267_0 hl267_0
        have HR267_3 := Aside0.mk hi267_3
        have HC267_3 := Aside0.mk hl267_3
        clear hi267_3 hl267_3
        replace p267 := eq_true p267
        replace q267 := eq_true q267
        have ea_ := Option.some.inj (hx256_0.symm.trans hx267_0)
        injection ea_ with ea_ en_ ec_
        subst ea_
        subst ec_
        clear en_
        have ea_ := Option.some.inj (hx256_3.symm.trans hx267_3)
        injection ea_ with ea_ en_ ec_
        subst ea_
        subst ec_
        clear en_
        refine start_ (n := 47) (S := fun w' => w'.cell? ⟨gb235, 0, none⟩ = some (.slice (some ad250) l0_0.length c0_0) ∧ w'.cell? ⟨gb235, 1, none⟩ = some (.slice (some ad265) l0_1.length c0_1) ∧ w'.cell? ⟨gb235, 194, none⟩ = some (.slice A0_3 l0_3.length c0_3) ∧ w'.cell? ⟨gb235, 195, none⟩ = some (.slice A0_4 l0_4.length c0_4) ∧ w'.cell? (ad255.add ((x73_2).toNat * 4)) = some (.slice A256_0 ((rd_T43 t238 x73_2).f0).length c256_0) ∧ w'.cell? ⟨(ad255.add ((x73_2).toNat * 4)).block, (ad255.add ((x73_2).toNat * 4)).off + 1, none⟩ = some (.int .i64 ((rd_T43 t238 x73_2).f1)) ∧ w'.cell? ⟨(ad255.add ((x73_2).toNat * 4)).block, (ad255.add ((x73_2).toNat * 4)).off + 2, none⟩ = some (.int .i64 ((rd_T43 t238 x73_2).f2)) ∧ w'.cell? ⟨(ad255.add ((x73_2).toNat * 4)).block, (ad255.add ((x73_2).toNat * 4)).off + 3, none⟩ = some (.slice A256_3 ((rd_T43 t238 x73_2).f3).length c256_3) ∧ w'.cell? (ad255.add ((x73_2).toNat * 4)) = some (.slice A256_0 ((rd_T43 t238 x73_2).f0).length c256_0) ∧ w'.cell? ⟨(ad255.add ((x73_2).toNat * 4)).block, (ad255.add ((x73_2).toNat * 4)).off + 1, none⟩ = some (.int .i64 ((rd_T43 t238 x73_2).f1)) ∧ w'.cell? ⟨(ad255.add ((x73_2).toNat * 4)).block, (ad255.add ((x73_2).toNat * 4)).off + 2, none⟩ = some (.int .i64 ((rd_T43 t238 x73_2).f2)) ∧ w'.cell? ⟨(ad255.add ((x73_2).toNat * 4)).block, (ad255.add ((x73_2).toNat * 4)).off + 3, none⟩ = some (.slice A256_3 ((rd_T43 t238 x73_2).f3).length c256_3) ∧ w'.cell? (ad255.add ((x73_2).toNat * 4)) = some (.slice A256_0 ((rd_T43 t238 x73_2).f0).length c256_0) ∧ w'.cell? ⟨(ad255.add ((x73_2).toNat * 4)).block, (ad255.add ((x73_2).toNat * 4)).off + 1, none⟩ = some (.int .i64 ((rd_T43 t238 x73_2).f1)) ∧ w'.cell? ⟨(ad255.add ((x73_2).toNat * 4)).block, (ad255.add ((x73_2).toNat * 4)).off + 2, none⟩ = some (.int .i64 ((rd_T43 t238 x73_2).f2)) ∧ w'.cell? ⟨(ad255.add ((x73_2).toNat * 4)).block, (ad255.add ((x73_2).toNat * 4)).off + 3, none⟩ = some (.slice A256_3 ((rd_T43 t238 x73_2).f3).length c256_3) ∧ w'.cell? (ad265.add ((x73_2).toNat * 4)) = some (.slice A265_0 ((rd_T43 l0_1 x73_2).f0).length c265_0) ∧ w'.cell? ⟨(ad265.add ((x73_2).toNat * 4)).block, (ad265.add ((x73_2).toNat * 4)).off + 1, none⟩ = some (.int .i64 ((rd_T43 l0_1 x73_2).f1)) ∧ w'.cell? ⟨(ad265.add ((x73_2).toNat * 4)).block, (ad265.add ((x73_2).toNat * 4)).off + 2, none⟩ = some (.int .i64 ((rd_T43 l0_1 x73_2).f2)) ∧ w'.cell? ⟨(ad265.add ((x73_2).toNat * 4)).block, (ad265.add ((x73_2).toNat * 4)).off + 3, none⟩ = some (.slice A265_3 ((rd_T43 l0_1 x73_2).f3).length c265_3) ∧ w'.cell? (ad255.add ((x73_2).toNat * 4)) = some (.slice A256_0 ((rd_T43 t238 x73_2).f0).length c256_0) ∧ w'.cell? ⟨(ad255.add ((x73_2).toNat * 4)).block, (ad255.add ((x73_2).toNat * 4)).off + 1, none⟩ = some (.int .i64 ((rd_T43 t238 x73_2).f1)) ∧ w'.cell? ⟨(ad255.add ((x73_2).toNat * 4)).block, (ad255.add ((x73_2).toNat * 4)).off + 2, none⟩ = some (.int .i64 ((rd_T43 t238 x73_2).f2)) ∧ w'.cell? ⟨(ad255.add ((x73_2).toNat * 4)).block, (ad255.add ((x73_2).toNat * 4)).off + 3, none⟩ = some (.slice A256_3 ((rd_T43 t238 x73_2).f3).length c256_3)) (ds := []) (bz 47 0) (by kernel_rfl) rfl rfl ⟨(blk_cell BK235.out 0).trans (im_ahead _ _ _ rfl), (blk_cell BK235.out 1).trans (im_ahead _ _ _ rfl), (blk_cell BK235.out 194).trans (im_behind _ _ _ 0 rfl rfl), (blk_cell BK235.out 195).trans (im_behind _ _ _ 1 rfl rfl), hx256_0, hx256_1, hx256_2, hx256_3, hx260_0, hx260_1, hx260_2, hx260_3, hx264_0, hx264_1, hx264_2, hx264_3, ((HB.out.cell (World.block_lt_of_cell? w _ hw265_0)).trans hw265_0), ((HB.out.cell (World.block_lt_of_cell? w _ hw265_1)).trans hw265_1), ((HB.out.cell (World.block_lt_of_cell? w _ hw265_2)).trans hw265_2), ((HB.out.cell (World.block_lt_of_cell? w _ hw265_3)).trans hw265_3), hx267_0, hx267_1, hx267_2, hx267_3⟩ (fun hHeld => ?_); refine with_tabW winchlaw21_BusHolds.tab12 winchlaw21_BusHolds.bits12 (fun HT_ HW_ => ?_)
        generalize w39.drew = w59 at HO_3 HO_5 HO_7 HO254 HL255_0 HL255_3 BK235 BK246 BK251 HR255_0 HR255_3 HB HL256_0 HL256_3 HL260_0 HL260_3 HL264_0 HL264_3 HL267_0 HL267_3 HR256_0 HR256_3 HR260_0 HR260_3 HR264_0 HR264_3 HR265_0 HR265_3 HR267_0 HR267_3 hx256_0 hx256_1 hx256_2 hx256_3 hx260_0 hx260_1 hx260_2 hx260_3 hx264_0 hx264_1 hx264_2 hx264_3 hx265_0 hx265_1 hx265_2 hx265_3 hx267_0 hx267_1 hx267_2 hx267_3 hHeld ⊢
        refine pu1 0 (some 91) (bz 47 1) ?_
        refine pu1 1 (some 92) (bz 47 3) ?_
        refine pu1 2 (some 93) (bz 47 7) ?_
        refine pu1 3 (some 94) (bz 47 15) ?_
        refine pu1 5 (some 96) (bz 47 47) ?_
        refine ta1 4 (some 95) (bz 47 63) ?_
        refine one_ (i := 6) (N := some 97) (bz 47 127) rfl rfl (one_of HT_.out (by kernel_rfl)) (by decide) (fun K hK => ?_)
        refine goes_ Try.func14 (by kernel_rfl) rfl #[.slice A256_0 ((rd_T43 t238 x73_2).f0).length c256_0, .slice Ao60 t252.length co60] (by rfl) rfl rfl xl ?_
        with_reducible refine (winchlaw21_ints.calls k2 _ _ ((rd_T43 t238 x73_2).f0) _ _ t252 false _ ?side1 ?side2 ?side3 ?side4 A41.out).mono ?_
        (case side1 => repeat (first | exact (by repeat (first | (with_reducible exact HR256_0.out) | (with_reducible refine Kd.C_alloc ?_ _) | (with_reducible refine Kd.C_drewN ?_ _) | (with_reducible refine Kd.C_drew ?_) | exact HR256_0.out)) | (with_reducible refine Kd.C_alloc ?_ _) | (with_reducible refine Kd.C_drewN ?_ _) | (with_reducible refine Kd.C_drew ?_)))
        (case side2 => exact HC256_0.out)
        (case side3 => exact xC ((Kd.R_reads' HO254.out).2.2))
        (case side4 => exact (Kd.R_reads' HO254.out).2.1)
        rintro e w' ⟨rfl, ⟨nd, rfl⟩⟩
        refine ⟨_, rfl, ?_⟩
        refine hK.out _ _ ⟨(blk_cell BK235.out 0).trans (im_ahead _ _ _ rfl), (blk_cell BK235.out 1).trans (im_ahead _ _ _ rfl), (blk_cell BK235.out 194).trans (im_behind _ _ _ 0 rfl rfl), (blk_cell BK235.out 195).trans (im_behind _ _ _ 1 rfl rfl), hHeld.2.2.2.2.1, hHeld.2.2.2.2.2.1, hHeld.2.2.2.2.2.2.1, hHeld.2.2.2.2.2.2.2.1, hHeld.2.2.2.2.2.2.2.2.1, hHeld.2.2.2.2.2.2.2.2.2.1, hHeld.2.2.2.2.2.2.2.2.2.2.1, hHeld.2.2.2.2.2.2.2.2.2.2.2.1, hHeld.2.2.2.2.2.2.2.2.2.2.2.2.1, hHeld.2.2.2.2.2.2.2.2.2.2.2.2.2.1, hHeld.2.2.2.2.2.2.2.2.2.2.2.2.2.2.1, hHeld.2.2.2.2.2.2.2.2.2.2.2.2.2.2.2.1, ((HB.out.cell (World.block_lt_of_cell? w _ hw265_0)).trans hw265_0), ((HB.out.cell (World.block_lt_of_cell? w _ hw265_1)).trans hw265_1), ((HB.out.cell (World.block_lt_of_cell? w _ hw265_2)).trans hw265_2), ((HB.out.cell (World.block_lt_of_cell? w _ hw265_3)).trans hw265_3), hHeld.2.2.2.2.2.2.2.2.2.2.2.2.2.2.2.2.2.2.2.2.1, hHeld.2.2.2.2.2.2.2.2.2.2.2.2.2.2.2.2.2.2.2.2.2.1, hHeld.2.2.2.2.2.2.2.2.2.2.2.2.2.2.2.2.2.2.2.2.2.2.1, hHeld.2.2.2.2.2.2.2.2.2.2.2.2.2.2.2.2.2.2.2.2.2.2.2⟩ (fun hHeld => ?_)
        clear hK K
        refine norm_ (a' := ?_) ?_ ?_
        rotate_left
        · show Act.put _ (some 97) _ = _
          simp only [Act.put, List.setIfInBounds_toArray, List.set_cons_zero, List.set_cons_succ, i64_w, i32_w]
          rfl
        refine pu1 7 (some 98) (bz 47 255) ?_
        refine pu1 8 (some 99) (bz 47 511) ?_
        refine pu1 9 (some 100) (bz 47 1023) ?_
        refine pu1 10 (some 101) (bz 47 2047) ?_
        refine pu1 11 (some 102) (bz 47 4095) ?_
        refine pu1 12 (some 103) (bz 47 8191) ?_
        refine pu1 13 (some 104) (bz 47 16383) ?_
        refine pu1 14 (some 105) (bz 47 32767) ?_
        refine ta1 15 (some 106) (bz 47 65535) ?_
        refine one_ (i := 16) (N := some 107) (bz 47 131071) rfl rfl (one_of HT_.out (by kernel_rfl)) (by decide) (fun K hK => ?_)
        refine goes_ Try.func15 (by kernel_rfl) rfl #[.slice A256_0 ((rd_T43 t238 x73_2).f0).length c256_0] (by rfl) rfl rfl xl ?_
        with_reducible refine (winchlaw21_zeros.calls k2 _ _ ((rd_T43 t238 x73_2).f0) false _ ?side1 ?side2 A50.out).mono ?_
        (case side1 => repeat (first | exact (by repeat (first | (with_reducible exact HR260_0.out) | (with_reducible refine Kd.C_alloc ?_ _) | (with_reducible refine Kd.C_drewN ?_ _) | (with_reducible refine Kd.C_drew ?_) | exact HR260_0.out)) | (with_reducible refine Kd.C_alloc ?_ _) | (with_reducible refine Kd.C_drewN ?_ _) | (with_reducible refine Kd.C_drew ?_)))
        (case side2 => exact HC260_0.out)
        rintro e w' ⟨rfl, ⟨nd, rfl⟩⟩
        refine ⟨_, rfl, ?_⟩
        refine hK.out _ _ ⟨(blk_cell BK235.out 0).trans (im_ahead _ _ _ rfl), (blk_cell BK235.out 1).trans (im_ahead _ _ _ rfl), (blk_cell BK235.out 194).trans (im_behind _ _ _ 0 rfl rfl), (blk_cell BK235.out 195).trans (im_behind _ _ _ 1 rfl rfl), hHeld.2.2.2.2.1, hHeld.2.2.2.2.2.1, hHeld.2.2.2.2.2.2.1, hHeld.2.2.2.2.2.2.2.1, hHeld.2.2.2.2.2.2.2.2.1, hHeld.2.2.2.2.2.2.2.2.2.1, hHeld.2.2.2.2.2.2.2.2.2.2.1, hHeld.2.2.2.2.2.2.2.2.2.2.2.1, hHeld.2.2.2.2.2.2.2.2.2.2.2.2.1, hHeld.2.2.2.2.2.2.2.2.2.2.2.2.2.1, hHeld.2.2.2.2.2.2.2.2.2.2.2.2.2.2.1, hHeld.2.2.2.2.2.2.2.2.2.2.2.2.2.2.2.1, ((HB.out.cell (World.block_lt_of_cell? w _ hw265_0)).trans hw265_0), ((HB.out.cell (World.block_lt_of_cell? w _ hw265_1)).trans hw265_1), ((HB.out.cell (World.block_lt_of_cell? w _ hw265_2)).trans hw265_2), ((HB.out.cell (World.block_lt_of_cell? w _ hw265_3)).trans hw265_3), hHeld.2.2.2.2.2.2.2.2.2.2.2.2.2.2.2.2.2.2.2.2.1, hHeld.2.2.2.2.2.2.2.2.2.2.2.2.2.2.2.2.2.2.2.2.2.1, hHeld.2.2.2.2.2.2.2.2.2.2.2.2.2.2.2.2.2.2.2.2.2.2.1, hHeld.2.2.2.2.2.2.2.2.2.2.2.2.2.2.2.2.2.2.2.2.2.2.2⟩ (fun hHeld => ?_)
        clear hK K
        refine norm_ (a' := ?_) ?_ ?_
        rotate_left
        · show Act.put _ (some 107) _ = _
          simp only [Act.put, List.setIfInBounds_toArray, List.set_cons_zero, List.set_cons_succ, i64_w, i32_w]
          rfl
        refine pu1 17 (some 108) (bz 47 262143) ?_
        refine pu1 18 (some 109) (bz 47 524287) ?_
        refine pu1 19 (some 110) (bz 47 1048575) ?_
        refine pu1 20 (some 111) (bz 47 2097151) ?_
        refine pu1 21 (some 112) (bz 47 4194303) ?_
        refine pu1 22 (some 113) (bz 47 8388607) ?_
        refine pu1 23 (some 114) (bz 47 16777215) ?_
        refine pu1 24 (some 115) (bz 47 33554431) ?_
        refine pu1 26 (some 117) (bz 47 100663295) ?_
        refine pu1 28 (some 119) (bz 47 369098751) ?_
        refine ta1 25 (some 116) (bz 47 402653183) ?_
        refine ta1 27 (some 118) (bz 47 536870911) ?_
        refine pu1 29 (some 120) (bz 47 1073741823) ?_
        refine pu1 30 (some 121) (bz 47 2147483647) ?_
        refine ta1 31 (some 122) (bz 47 4294967295) ?_
        refine one_ (i := 32) (N := some 123) (bz 47 8589934591) rfl rfl (one_of HT_.out (by kernel_rfl)) (by decide) (fun K hK => ?_)
        refine goes_ Try.func14 (by kernel_rfl) rfl #[.slice A256_0 ((rd_T43 t238 x73_2).f0).length c256_0, .slice A265_0 ((rd_T43 l0_1 x73_2).f0).length c265_0] (by rfl) rfl rfl xl ?_
        with_reducible refine (winchlaw21_ints.calls k2 _ _ ((rd_T43 t238 x73_2).f0) _ _ ((rd_T43 l0_1 x73_2).f0) true _ ?side1 ?side2 ?side3 ?side4 A56.out).mono ?_
        (case side1 => repeat (first | exact (by repeat (first | (with_reducible exact HR264_0.out) | (with_reducible refine Kd.C_alloc ?_ _) | (with_reducible refine Kd.C_drewN ?_ _) | (with_reducible refine Kd.C_drew ?_) | exact HR264_0.out)) | (with_reducible refine Kd.C_alloc ?_ _) | (with_reducible refine Kd.C_drewN ?_ _) | (with_reducible refine Kd.C_drew ?_)))
        (case side2 => exact HC264_0.out)
        (case side3 => exact xC ((Kd.C_below HR265_0.out (xh HB.out))))
        (case side4 => exact HC265_0.out)
        rintro e w' ⟨rfl, ⟨nd, rfl⟩⟩
        refine ⟨_, rfl, ?_⟩
        refine hK.out _ _ ⟨(blk_cell BK235.out 0).trans (im_ahead _ _ _ rfl), (blk_cell BK235.out 1).trans (im_ahead _ _ _ rfl), (blk_cell BK235.out 194).trans (im_behind _ _ _ 0 rfl rfl), (blk_cell BK235.out 195).trans (im_behind _ _ _ 1 rfl rfl), hHeld.2.2.2.2.1, hHeld.2.2.2.2.2.1, hHeld.2.2.2.2.2.2.1, hHeld.2.2.2.2.2.2.2.1, hHeld.2.2.2.2.2.2.2.2.1, hHeld.2.2.2.2.2.2.2.2.2.1, hHeld.2.2.2.2.2.2.2.2.2.2.1, hHeld.2.2.2.2.2.2.2.2.2.2.2.1, hHeld.2.2.2.2.2.2.2.2.2.2.2.2.1, hHeld.2.2.2.2.2.2.2.2.2.2.2.2.2.1, hHeld.2.2.2.2.2.2.2.2.2.2.2.2.2.2.1, hHeld.2.2.2.2.2.2.2.2.2.2.2.2.2.2.2.1, ((HB.out.cell (World.block_lt_of_cell? w _ hw265_0)).trans hw265_0), ((HB.out.cell (World.block_lt_of_cell? w _ hw265_1)).trans hw265_1), ((HB.out.cell (World.block_lt_of_cell? w _ hw265_2)).trans hw265_2), ((HB.out.cell (World.block_lt_of_cell? w _ hw265_3)).trans hw265_3), hHeld.2.2.2.2.2.2.2.2.2.2.2.2.2.2.2.2.2.2.2.2.1, hHeld.2.2.2.2.2.2.2.2.2.2.2.2.2.2.2.2.2.2.2.2.2.1, hHeld.2.2.2.2.2.2.2.2.2.2.2.2.2.2.2.2.2.2.2.2.2.2.1, hHeld.2.2.2.2.2.2.2.2.2.2.2.2.2.2.2.2.2.2.2.2.2.2.2⟩ (fun hHeld => ?_)
        clear hK K
        refine norm_ (a' := ?_) ?_ ?_
        rotate_left
        · show Act.put _ (some 123) _ = _
          simp only [Act.put, List.setIfInBounds_toArray, List.set_cons_zero, List.set_cons_succ, i64_w, i32_w]
          rfl
        refine pu1 33 (some 124) (bz 47 17179869183) ?_
        refine pu1 34 (some 125) (bz 47 34359738367) ?_
        refine pu1 35 (some 126) (bz 47 68719476735) ?_
        refine pu1 36 (some 127) (bz 47 137438953471) ?_
        refine pu1 37 (some 128) (bz 47 274877906943) ?_
        refine pu1 38 (some 129) (bz 47 549755813887) ?_
        refine pu1 39 (some 130) (bz 47 1099511627775) ?_
        refine pu1 40 (some 131) (bz 47 2199023255551) ?_
        refine pu1 41 (some 132) (bz 47 4398046511103) ?_
        refine ta1 42 (some 133) (bz 47 8796093022207) ?_
        refine one_ (i := 43) (N := some 134) (bz 47 17592186044415) rfl rfl (one_of HT_.out (by kernel_rfl)) (by decide) (fun K hK => ?_)
        refine goes_ Try.func15 (by kernel_rfl) rfl #[.slice A256_0 ((rd_T43 t238 x73_2).f0).length c256_0] (by rfl) rfl rfl xl ?_
        with_reducible refine (winchlaw21_zeros.calls k2 _ _ ((rd_T43 t238 x73_2).f0) t268 _ ?side1 ?side2 A58.out).mono ?_
        (case side1 => repeat (first | exact (by repeat (first | (with_reducible exact HR267_0.out) | (with_reducible refine Kd.C_alloc ?_ _) | (with_reducible refine Kd.C_drewN ?_ _) | (with_reducible refine Kd.C_drew ?_) | exact HR267_0.out)) | (with_reducible refine Kd.C_alloc ?_ _) | (with_reducible refine Kd.C_drewN ?_ _) | (with_reducible refine Kd.C_drew ?_)))
        (case side2 => exact HC267_0.out)
        rintro e w' ⟨rfl, ⟨nd, rfl⟩⟩
        refine ⟨_, rfl, ?_⟩
        refine hK.out _ _ ⟨(blk_cell BK235.out 0).trans (im_ahead _ _ _ rfl), (blk_cell BK235.out 1).trans (im_ahead _ _ _ rfl), (blk_cell BK235.out 194).trans (im_behind _ _ _ 0 rfl rfl), (blk_cell BK235.out 195).trans (im_behind _ _ _ 1 rfl rfl), hHeld.2.2.2.2.1, hHeld.2.2.2.2.2.1, hHeld.2.2.2.2.2.2.1, hHeld.2.2.2.2.2.2.2.1, hHeld.2.2.2.2.2.2.2.2.1, hHeld.2.2.2.2.2.2.2.2.2.1, hHeld.2.2.2.2.2.2.2.2.2.2.1, hHeld.2.2.2.2.2.2.2.2.2.2.2.1, hHeld.2.2.2.2.2.2.2.2.2.2.2.2.1, hHeld.2.2.2.2.2.2.2.2.2.2.2.2.2.1, hHeld.2.2.2.2.2.2.2.2.2.2.2.2.2.2.1, hHeld.2.2.2.2.2.2.2.2.2.2.2.2.2.2.2.1, ((HB.out.cell (World.block_lt_of_cell? w _ hw265_0)).trans hw265_0), ((HB.out.cell (World.block_lt_of_cell? w _ hw265_1)).trans hw265_1), ((HB.out.cell (World.block_lt_of_cell? w _ hw265_2)).trans hw265_2), ((HB.out.cell (World.block_lt_of_cell? w _ hw265_3)).trans hw265_3), hHeld.2.2.2.2.2.2.2.2.2.2.2.2.2.2.2.2.2.2.2.2.1, hHeld.2.2.2.2.2.2.2.2.2.2.2.2.2.2.2.2.2.2.2.2.2.1, hHeld.2.2.2.2.2.2.2.2.2.2.2.2.2.2.2.2.2.2.2.2.2.2.1, hHeld.2.2.2.2.2.2.2.2.2.2.2.2.2.2.2.2.2.2.2.2.2.2.2⟩ (fun hHeld => ?_)
        clear hK K
        refine norm_ (a' := ?_) ?_ ?_
        rotate_left
        · show Act.put _ (some 134) _ = _
          simp only [Act.put, List.setIfInBounds_toArray, List.set_cons_zero, List.set_cons_succ, i64_w, i32_w]
          rfl
        refine pu1 44 (some 135) (bz 47 35184372088831) ?_
        refine pu1 45 (some 136) (bz 47 70368744177663) ?_
        refine pu1 46 (some 137) (bz 47 140737488355327) ?_
        refine done_ (done_of HT_.out (by kernel_rfl)) ?_
        try go_wp2
        go_meet
        case rel => exact ⟨(by first | rfl | (congr 1; symm; assumption) | (simp [*]; done)), _, (!t268), (by first | rfl | (simp; done) | (simp [*]; done) | (refine congrArg (Value.int _) ?_; simp only [xw_u32, xw_u8, i64_w, i32_w]; unfold wrap64; omega)), H', ⟨by have := HJ4.out; have := HK2.out; first | omega | exact Nat.le_refl _⟩, ⟨by (with_reducible repeat (first | apply Kd.S_alloc | apply Kd.S_drewN | apply Kd.S_drew)); exact Kd.S_mono HO_3.out (fun _ hk => hk.2)⟩, ⟨by refine xr ?_; exact HO_5.out⟩, ⟨by refine xr ?_; exact HO_7.out⟩, ⟨by refine xr ?_; exact HO254.out⟩, ⟨by refine xb ?_; exact BK235.out⟩, ⟨by refine xb ?_; exact BK246.out⟩, ⟨by refine xb ?_; exact BK251.out⟩, ⟨by repeat (first | (with_reducible exact HR255_0.out) | (with_reducible refine Kd.C_alloc ?_ _) | (with_reducible refine Kd.C_drewN ?_ _) | (with_reducible refine Kd.C_drew ?_) | exact HR255_0.out)⟩, ⟨by repeat (first | (with_reducible exact HR255_3.out) | (with_reducible refine Kd.C_alloc ?_ _) | (with_reducible refine Kd.C_drewN ?_ _) | (with_reducible refine Kd.C_drew ?_) | exact HR255_3.out)⟩, ⟨by exact xh HB.out⟩⟩
      case rest =>
        as_aux_lemma =>
        clear HC31
        try clear c1; try clear c2; try clear p2; try clear q2; try clear hx2; try clear c4; try clear c5; try clear c6; try clear c14; try clear c15; try clear c25; try clear p25; try clear q25; try clear hx25; try clear c26; try clear p26; try clear q26; try clear hx26; try clear c27; try clear p27; try clear q27; try clear hx27; try clear c49; try clear c49b0; try clear c55; try clear c57; try clear c61; try clear c61b0; try clear c63; try clear hx256_0; try clear hx256_1; try clear hx256_2; try clear hx256_3; try clear hx269_0; try clear hx269_1; try clear hx269_2; try clear hx269_3; try clear hx270_0; try clear hx270_1; try clear hx270_2; try clear hx270_3; try clear p256; try clear p269; try clear p270; try clear q256; try clear q269; try clear q270
        obtain ⟨rfl, kq, x137_30, rfl, HA, HJ30, HO_3, HO_5, HO_7, HO_10, BK235, BK246, BK251, HR255_0, HR255_3, HB⟩ := hcut
        rcases kq with _ | kj30
        · exact absurd HA.out (by simp [winchlaw21_BusHolds.j2])
        have H := HA.out
        clear HA
        simp only [winchlaw21_BusHolds.j2] at H
        by_cases c66 : x137_30 = true
        · subst c66
          have H1 : (none) = some r := by rw [if_pos rfl] at H; exact H
          clear H
          have H := H1
          clear H1
          exact absurd H (by simp)
        replace c66 := Bool.eq_false_iff.mpr c66
        subst c66
        have H1 : (if 0 ≤ x73_2 then (if x73_2 < (t240.length : Int) then (if ((rd_T47 t240 x73_2).f0) < 1 then (none) else (if ((rd_T47 t240 x73_2).f0) > 3 then (none) else (if (rd_T47 t240 x73_2).f1 = true then (if x73_2 < (t238.length : Int) then (if ((rd_T43 t238 x73_2).f1) = 0 then (if ((rd_T43 t238 x73_2).f2) = 0 then ((winchlaw21_ints.f kj30 ((rd_T43 t238 x73_2).f0) t252).bind fun t278 => (if t278 = true then (if x73_2 < (l0_3.length : Int) then ((winchlaw21_ints.f kj30 ((rd_T43 t238 x73_2).f3) (rd_L1 l0_3 x73_2)).bind fun t281 => (if t281 = true then (if ((rd_T47 t240 x73_2).f1 = true) then (winchlaw21_BusHolds.j3 kj30 t238 t240 x7_2 l0_0 (l0_0.length : Int) x73_2 false l0_0 l0_1 a0_2 l0_3 l0_4 t239 ((rd_T40 l0_0 x73_2).f0) ((rd_T40 l0_0 x73_2).f1) ((rd_T40 l0_0 x73_2).f2) ((rd_T40 l0_0 x73_2).f3)) else (winchlaw21_BusHolds.j3 kj30 t238 t240 x7_2 l0_0 (l0_0.length : Int) x73_2 (((rd_T43 t238 x73_2).f2) == 0) l0_0 l0_1 a0_2 l0_3 l0_4 t239 ((rd_T40 l0_0 x73_2).f0) ((rd_T40 l0_0 x73_2).f1) ((rd_T40 l0_0 x73_2).f2) ((rd_T40 l0_0 x73_2).f3))) else (none))) else (none)) else (none))) else (none)) else (none)) else (none)) else (if ((rd_T47 t240 x73_2).f1 = true) then (winchlaw21_BusHolds.j3 kj30 t238 t240 x7_2 l0_0 (l0_0.length : Int) x73_2 false l0_0 l0_1 a0_2 l0_3 l0_4 t239 ((rd_T40 l0_0 x73_2).f0) ((rd_T40 l0_0 x73_2).f1) ((rd_T40 l0_0 x73_2).f2) ((rd_T40 l0_0 x73_2).f3)) else (if x73_2 < (t238.length : Int) then (winchlaw21_BusHolds.j3 kj30 t238 t240 x7_2 l0_0 (l0_0.length : Int) x73_2 (((rd_T43 t238 x73_2).f2) == 0) l0_0 l0_1 a0_2 l0_3 l0_4 t239 ((rd_T40 l0_0 x73_2).f0) ((rd_T40 l0_0 x73_2).f1) ((rd_T40 l0_0 x73_2).f2) ((rd_T40 l0_0 x73_2).f3)) else (none)))))) else (none)) else (none)) = some r := by rw [if_neg (show ¬ (false = true) by decide)] at H; exact H
        clear H
        have H := H1
        clear H1
        have HC67 := Aside0.mk H
        clear H
        go_upto_region 14 with (fail)
        go_cut [214] (fun v214 wc => ∃ (kq : Nat) (x214_66 : Bool), v214 = .bool x214_66 ∧ Aside0 (winchlaw21_BusHolds.j3 kq t238 t240 x7_2 l0_0 (l0_0.length : Int) x73_2 x214_66 l0_0 l0_1 a0_2 l0_3 l0_4 t239 ((rd_T40 l0_0 x73_2).f0) ((rd_T40 l0_0 x73_2).f1) ((rd_T40 l0_0 x73_2).f2) ((rd_T40 l0_0 x73_2).f3) = some r) ∧ Aside0 (kq ≤ kj30) ∧ Aside0 (Kd.S k43 43 wc w.heap.size (fun _ => True) (.slice (some ad255) t238.length co40) t238) ∧ Aside0 (Kd.R k47 47 wc w.heap.size (fun _ => True) v244 t240) ∧ Aside0 (Kd.R Kd.bool 4 wc w.heap.size (fun _ => True) v248 x7_2) ∧ Aside0 (wc.heap[gb235]? = some (.cells (#[(.slice (some ad250) l0_0.length c0_0), (.slice A0_1 l0_1.length c0_1)] ++ ((ims a0_2) ++ #[(.slice A0_3 l0_3.length c0_3), (.slice A0_4 l0_4.length c0_4)])) 30 (0, 0))) ∧ Aside0 (wc.heap[gb246]? = some (.cells (ims t239) 26 (0, 0))) ∧ Aside0 (wc.heap[gb251]? = some (.cells #[.int .i64 ((rd_T40 l0_0 x73_2).f0), (.slice A250_1 ((rd_T40 l0_0 x73_2).f1).length c250_1), (.slice A250_2 ((rd_T40 l0_0 x73_2).f2).length c250_2), .int .i64 ((rd_T40 l0_0 x73_2).f3)] 40 (0, 0))) ∧ Aside0 (Kd.C (Kd.int .i64) wc A255_0 ((rd_T43 t238 x73_2).f0).length ((rd_T43 t238 x73_2).f0)) ∧ Aside0 (Kd.C (Kd.int .i64) wc A255_3 ((rd_T43 t238 x73_2).f3).length ((rd_T43 t238 x73_2).f3)) ∧ Aside0 (Below w.heap.size w wc))
        case first =>
          as_aux_lemma =>
          have H := HC67.out
          clear HC67
          by_cases c68 : 0 ≤ x73_2
          rotate_left
          · rw [if_neg c68] at H
            exact absurd H (by simp)
          rw [if_pos c68] at H
          have c68b0 : decide (0 ≤ x73_2) = true := decide_eq_true c68
          clear c68
          (first | rw [c68b0] | (simp only [i64_w, i32_w]; rw [c68b0]) | skip)
          by_cases c69 : x73_2 < (t240.length : Int)
          rotate_left
          · rw [if_neg c69] at H
            exact absurd H (by simp)
          rw [if_pos c69] at H
          have c69b0 : decide (x73_2 < (t240.length : Int)) = true := decide_eq_true c69
          clear c69
          by_cases c70 : ((rd_T47 t240 x73_2).f0) < 1
          · rw [if_pos c70] at H
            exact absurd H (by simp)
          rw [if_neg c70] at H
          have c70b0 : decide (((rd_T47 t240 x73_2).f0) < 1) = false := decide_eq_false c70
          clear c70
          by_cases c71 : ((rd_T47 t240 x73_2).f0) > 3
          · rw [if_pos c71] at H
            exact absurd H (by simp)
          rw [if_neg c71] at H
          have c71b0 : decide (3 < ((rd_T47 t240 x73_2).f0)) = false := decide_eq_false c71
          clear c71
          obtain ⟨bq72, hbq72⟩ : ∃ b_ : Bool, b_ = ((rd_T47 t240 x73_2).f1) := ⟨_, rfl⟩
          replace H : (if bq72 = true then (if x73_2 < (t238.length : Int) then (if ((rd_T43 t238 x73_2).f1) = 0 then (if ((rd_T43 t238 x73_2).f2) = 0 then ((winchlaw21_ints.f kj30 ((rd_T43 t238 x73_2).f0) t252).bind fun t278 => (if t278 = true then (if x73_2 < (l0_3.length : Int) then ((winchlaw21_ints.f kj30 ((rd_T43 t238 x73_2).f3) (rd_L1 l0_3 x73_2)).bind fun t281 => (if t281 = true then (if (bq72 = true) then (winchlaw21_BusHolds.j3 kj30 t238 t240 x7_2 l0_0 (l0_0.length : Int) x73_2 false l0_0 l0_1 a0_2 l0_3 l0_4 t239 ((rd_T40 l0_0 x73_2).f0) ((rd_T40 l0_0 x73_2).f1) ((rd_T40 l0_0 x73_2).f2) ((rd_T40 l0_0 x73_2).f3)) else (winchlaw21_BusHolds.j3 kj30 t238 t240 x7_2 l0_0 (l0_0.length : Int) x73_2 (((rd_T43 t238 x73_2).f2) == 0) l0_0 l0_1 a0_2 l0_3 l0_4 t239 ((rd_T40 l0_0 x73_2).f0) ((rd_T40 l0_0 x73_2).f1) ((rd_T40 l0_0 x73_2).f2) ((rd_T40 l0_0 x73_2).f3))) else (none))) else (none)) else (none))) else (none)) else (none)) else (none)) else (if (bq72 = true) then (winchlaw21_BusHolds.j3 kj30 t238 t240 x7_2 l0_0 (l0_0.length : Int) x73_2 false l0_0 l0_1 a0_2 l0_3 l0_4 t239 ((rd_T40 l0_0 x73_2).f0) ((rd_T40 l0_0 x73_2).f1) ((rd_T40 l0_0 x73_2).f2) ((rd_T40 l0_0 x73_2).f3)) else (if x73_2 < (t238.length : Int) then (winchlaw21_BusHolds.j3 kj30 t238 t240 x7_2 l0_0 (l0_0.length : Int) x73_2 (((rd_T43 t238 x73_2).f2) == 0) l0_0 l0_1 a0_2 l0_3 l0_4 t239 ((rd_T40 l0_0 x73_2).f0) ((rd_T40 l0_0 x73_2).f1) ((rd_T40 l0_0 x73_2).f2) ((rd_T40 l0_0 x73_2).f3)) else (none)))) = some r := by rw [← hbq72] at H; exact H
          have Nbq72 := Aside0.mk hbq72
          clear hbq72
          by_cases c73 : bq72 = true
          rotate_left
          · replace c73 := Bool.eq_false_iff.mpr c73
            subst c73
            have H1 : (if (false = true) then (winchlaw21_BusHolds.j3 kj30 t238 t240 x7_2 l0_0 (l0_0.length : Int) x73_2 false l0_0 l0_1 a0_2 l0_3 l0_4 t239 ((rd_T40 l0_0 x73_2).f0) ((rd_T40 l0_0 x73_2).f1) ((rd_T40 l0_0 x73_2).f2) ((rd_T40 l0_0 x73_2).f3)) else (if x73_2 < (t238.length : Int) then (winchlaw21_BusHolds.j3 kj30 t238 t240 x7_2 l0_0 (l0_0.length : Int) x73_2 (((rd_T43 t238 x73_2).f2) == 0) l0_0 l0_1 a0_2 l0_3 l0_4 t239 ((rd_T40 l0_0 x73_2).f0) ((rd_T40 l0_0 x73_2).f1) ((rd_T40 l0_0 x73_2).f2) ((rd_T40 l0_0 x73_2).f3)) else (none))) = some r := by rw [if_neg (show ¬ (false = true) by decide)] at H; exact H
            clear H
            have H := H1
            clear H1
            by_cases c89 : (false = true)
            · exact absurd c89 (by decide)
            clear c89
            have H1 : (if x73_2 < (t238.length : Int) then (winchlaw21_BusHolds.j3 kj30 t238 t240 x7_2 l0_0 (l0_0.length : Int) x73_2 (((rd_T43 t238 x73_2).f2) == 0) l0_0 l0_1 a0_2 l0_3 l0_4 t239 ((rd_T40 l0_0 x73_2).f0) ((rd_T40 l0_0 x73_2).f1) ((rd_T40 l0_0 x73_2).f2) ((rd_T40 l0_0 x73_2).f3)) else (none)) = some r := by rw [if_neg (show ¬ (false = true) by decide)] at H; exact H
            clear H
            have H := H1
            clear H1
            by_cases c92 : x73_2 < (t238.length : Int)
            rotate_left
            · rw [if_neg c92] at H
              exact absurd H (by simp)
            rw [if_pos c92] at H
            have c92b0 : decide (x73_2 < (t238.length : Int)) = true := decide_eq_true c92
            clear c92
            have H' := Aside0.mk H
            clear H
            try go_wp2
            replace HO_3 := Aside0.mk (Kd.S_drew HO_3.out)
            replace HO_5 := Aside0.mk (Kd.R_drew HO_5.out)
            replace HO_7 := Aside0.mk (Kd.R_drew HO_7.out)
            replace HO_10 := Aside0.mk (Kd.R_drew HO_10.out)
            replace BK235 := Aside0.mk (blk_drew BK235.out)
            replace BK246 := Aside0.mk (blk_drew BK246.out)
            replace BK251 := Aside0.mk (blk_drew BK251.out)
            replace HR255_0 := Aside0.mk (Kd.C_drew HR255_0.out)
            replace HR255_3 := Aside0.mk (Kd.C_drew HR255_3.out)
            replace HB := Aside0.mk (below_drew1 HB.out)
            obtain ⟨Ao94, co94, eo94⟩ := Kd.R_slice HO_5.out
            (first | subst eo94 | (injection eo94 with f1_ f2_ f3_; have f4_ := f1_.symm; have f5_ := f3_.symm; clear f1_ f2_ f3_; subst f4_; subst f5_))
            have p272 : 0 ≤ (x73_2 : Int) := of_decide_eq_true xa
            have q272 : x73_2 < (t240.length : Int) := of_decide_eq_true xa
            obtain ⟨ad272, e272, hx272_0, hx272_1⟩ := at_T47 (Kd.R_reads' HO_5.out).2.2 x73_2 p272 q272
            (try rw [← Nbq72.out] at hx272_1)
            cases e272
            replace p272 := eq_true p272
            replace q272 := eq_true q272
            have p273 : 0 ≤ (x73_2 : Int) := of_decide_eq_true xa
            have q273 : x73_2 < (t240.length : Int) := of_decide_eq_true xa
            obtain ⟨ad273, e273, hx273_0, hx273_1⟩ := at_T47 (Kd.R_reads' HO_5.out).2.2 x73_2 p273 q273
            (try rw [← Nbq72.out] at hx273_1)
            obtain rfl : ad272 = ad273 := (by injection e273)
            replace p273 := eq_true p273
            replace q273 := eq_true q273
            have p274 : 0 ≤ (x73_2 : Int) := of_decide_eq_true xa
            have q274 : x73_2 < (t240.length : Int) := of_decide_eq_true xa
            obtain ⟨ad274, e274, hx274_0, hx274_1⟩ := at_T47 (Kd.R_reads' HO_5.out).2.2 x73_2 p274 q274
            (try rw [← Nbq72.out] at hx274_1)
            obtain rfl : ad272 = ad274 := (by injection e274)
            replace p274 := eq_true p274
            replace q274 := eq_true q274
            have p284 : 0 ≤ (x73_2 : Int) := of_decide_eq_true xa
            have q284 : x73_2 < (t240.length : Int) := of_decide_eq_true xa
            obtain ⟨ad284, e284, hx284_0, hx284_1⟩ := at_T47 (Kd.R_reads' HO_5.out).2.2 x73_2 p284 q284
            (try rw [← Nbq72.out] at hx284_1)
            obtain rfl : ad272 = ad284 := (by injection e284)
            replace p284 := eq_true p284
            replace q284 := eq_true q284
            have p285 : 0 ≤ (x73_2 : Int) := of_decide_eq_true xa
            have q285 : x73_2 < (t238.length : Int) := of_decide_eq_true xa
            obtain ⟨ad285, A285_0, c285_0, A285_3, c285_3, e285, hx285_0, hx285_1, hx285_2, hx285_3, hl285_0, hi285_0, hl285_3, hi285_3⟩ := at_T43 (Kd.S_reads' HO_3.out).2.2 x73_2 p285 q285
            obtain rfl : ad255 = ad285 := (by injection e285)
            obtain ⟨ce285, hce285, hMe285, hcc285⟩ := Kd.S_get HO_3.out z43 x73_2 p285 (by first | exact q285 | exact of_decide_eq_true xa | (have e_ := (Kd.S_reads' HO_3.out).1; omega))
            obtain ⟨ve285_0, ve285_3, rfl, ge285_0, ge285_3⟩ := k43_openM hMe285
            have hv285_0 := hcc285 0 _ rfl
            rw [Nat.add_zero] at hv285_0
            replace hv285_0 := Option.some.inj (hv285_0.symm.trans hx285_0)
            rw [hv285_0] at ge285_0
            have HL285_0 := Aside0.mk (show Kd.R (Kd.int .i64) 3 _ _ _ _ ((rd_T43 t238 x73_2).f0) from ge285_0)
            clear hv285_0 ge285_0
            have hv285_3 := hcc285 3 _ rfl
            rw [add_field _ _ 3 (by omega)] at hv285_3
            replace hv285_3 := Option.some.inj (hv285_3.symm.trans hx285_3)
            rw [hv285_3] at ge285_3
            have HL285_3 := Aside0.mk (show Kd.R (Kd.int .i64) 3 _ _ _ _ ((rd_T43 t238 x73_2).f3) from ge285_3)
            clear hv285_3 ge285_3
            clear hcc285 hce285
            have HR285_0 := Aside0.mk hi285_0
            have HC285_0 := Aside0.mk hl285_0
            clear hi285_0 hl285_0
            have HR285_3 := Aside0.mk hi285_3
            have HC285_3 := Aside0.mk hl285_3
            clear hi285_3 hl285_3
            replace p285 := eq_true p285
            replace q285 := eq_true q285
            refine start_ (n := 77) (S := fun w' => w'.cell? (ad272.add ((x73_2).toNat * 2)) = some (.int .i64 ((rd_T47 t240 x73_2).f0)) ∧ w'.cell? ⟨(ad272.add ((x73_2).toNat * 2)).block, (ad272.add ((x73_2).toNat * 2)).off + 1, none⟩ = some (.bool false) ∧ w'.cell? (ad272.add ((x73_2).toNat * 2)) = some (.int .i64 ((rd_T47 t240 x73_2).f0)) ∧ w'.cell? ⟨(ad272.add ((x73_2).toNat * 2)).block, (ad272.add ((x73_2).toNat * 2)).off + 1, none⟩ = some (.bool false) ∧ w'.cell? (ad272.add ((x73_2).toNat * 2)) = some (.int .i64 ((rd_T47 t240 x73_2).f0)) ∧ w'.cell? ⟨(ad272.add ((x73_2).toNat * 2)).block, (ad272.add ((x73_2).toNat * 2)).off + 1, none⟩ = some (.bool false) ∧ w'.cell? (ad272.add ((x73_2).toNat * 2)) = some (.int .i64 ((rd_T47 t240 x73_2).f0)) ∧ w'.cell? ⟨(ad272.add ((x73_2).toNat * 2)).block, (ad272.add ((x73_2).toNat * 2)).off + 1, none⟩ = some (.bool false) ∧ w'.cell? (ad255.add ((x73_2).toNat * 4)) = some (.slice A285_0 ((rd_T43 t238 x73_2).f0).length c285_0) ∧ w'.cell? ⟨(ad255.add ((x73_2).toNat * 4)).block, (ad255.add ((x73_2).toNat * 4)).off + 1, none⟩ = some (.int .i64 ((rd_T43 t238 x73_2).f1)) ∧ w'.cell? ⟨(ad255.add ((x73_2).toNat * 4)).block, (ad255.add ((x73_2).toNat * 4)).off + 2, none⟩ = some (.int .i64 ((rd_T43 t238 x73_2).f2)) ∧ w'.cell? ⟨(ad255.add ((x73_2).toNat * 4)).block, (ad255.add ((x73_2).toNat * 4)).off + 3, none⟩ = some (.slice A285_3 ((rd_T43 t238 x73_2).f3).length c285_3)) (ds := []) (bz 77 0) (by kernel_rfl) rfl rfl ⟨hx272_0, hx272_1, hx273_0, hx273_1, hx274_0, hx274_1, hx284_0, hx284_1, hx285_0, hx285_1, hx285_2, hx285_3⟩ (fun hHeld => ?_); refine with_tabW winchlaw21_BusHolds.tab14 winchlaw21_BusHolds.bits14 (fun HT_ HW_ => ?_)
            generalize wc.drew = w93 at HO_3 HO_5 HO_7 HO_10 BK235 BK246 BK251 HR255_0 HR255_3 HB HL285_0 HL285_3 HR285_0 HR285_3 hx272_0 hx272_1 hx273_0 hx273_1 hx274_0 hx274_1 hx284_0 hx284_1 hx285_0 hx285_1 hx285_2 hx285_3 hHeld ⊢
            refine pu1 0 (some 138) (bz 77 1) ?_
            refine pu1 1 (some 139) (bz 77 3) ?_
            refine pu1 2 (some 140) (bz 77 7) ?_
            refine pu1 3 (some 141) (bz 77 15) ?_
            refine ta1 4 (some 142) (bz 77 31) ?_
            refine pu1 5 (some 143) (bz 77 63) ?_
            refine pu1 6 (some 144) (bz 77 127) ?_
            refine pu1 7 (some 145) (bz 77 255) ?_
            refine pu1 8 (some 146) (bz 77 511) ?_
            refine pu1 9 (some 147) (bz 77 1023) ?_
            refine pu1 10 (some 148) (bz 77 2047) ?_
            refine ta1 11 (some 149) (bz 77 4095) ?_
            refine pu1 12 (some 150) (bz 77 8191) ?_
            refine pu1 13 (some 151) (bz 77 16383) ?_
            refine pu1 14 (some 152) (bz 77 32767) ?_
            refine pu1 15 (some 153) (bz 77 65535) ?_
            refine pu1 16 (some 154) (bz 77 131071) ?_
            refine pu1 17 (some 155) (bz 77 262143) ?_
            refine pu1 18 (some 156) (bz 77 524287) ?_
            refine ta1 19 (some 157) (bz 77 1048575) ?_
            refine pu1 20 (some 158) (bz 77 2097151) ?_
            refine pn1 21 (some 159) (bz 77 4194303) ?_
            refine pn1 22 (some 160) (bz 77 8388607) ?_
            refine pn1 23 (some 161) (bz 77 16777215) ?_
            refine pn1 24 (some 162) (bz 77 33554431) ?_
            refine pn1 25 (some 163) (bz 77 67108863) ?_
            refine pn1 26 (some 164) (bz 77 134217727) ?_
            refine pn1 27 (some 165) (bz 77 268435455) ?_
            refine pn1 28 (some 166) (bz 77 536870911) ?_
            refine pn1 29 (some 167) (bz 77 1073741823) ?_
            refine pn1 30 (some 168) (bz 77 2147483647) ?_
            refine pn1 31 (some 169) (bz 77 4294967295) ?_
            refine pn1 32 (some 170) (bz 77 8589934591) ?_
            refine pn1 33 (some 171) (bz 77 17179869183) ?_
            refine pn1 34 (some 172) (bz 77 34359738367) ?_
            refine pn1 35 (some 173) (bz 77 68719476735) ?_
            refine pn1 36 (some 174) (bz 77 137438953471) ?_
            refine pn1 37 (some 175) (bz 77 274877906943) ?_
            refine pn1 38 (some 176) (bz 77 549755813887) ?_
            refine pn1 39 (some 177) (bz 77 1099511627775) ?_
            refine pn1 40 (some 178) (bz 77 2199023255551) ?_
            refine pn1 41 (some 179) (bz 77 4398046511103) ?_
            refine pn1 42 (some 180) (bz 77 8796093022207) ?_
            refine pn1 43 (some 181) (bz 77 17592186044415) ?_
            refine pn1 44 (some 182) (bz 77 35184372088831) ?_
            refine pn1 45 (some 183) (bz 77 70368744177663) ?_
            refine pn1 46 (some 184) (bz 77 140737488355327) ?_
            refine pn1 47 (some 185) (bz 77 281474976710655) ?_
            refine pn1 48 (some 186) (bz 77 562949953421311) ?_
            refine pn1 49 (some 187) (bz 77 1125899906842623) ?_
            refine pn1 50 (some 188) (bz 77 2251799813685247) ?_
            refine pn1 51 (some 189) (bz 77 4503599627370495) ?_
            refine pn1 52 (some 190) (bz 77 9007199254740991) ?_
            refine pn1 53 (some 191) (bz 77 18014398509481983) ?_
            refine pn1 54 (some 192) (bz 77 36028797018963967) ?_
            refine pn1 55 (some 193) (bz 77 72057594037927935) ?_
            refine pn1 56 (some 194) (bz 77 144115188075855871) ?_
            refine pn1 57 (some 195) (bz 77 288230376151711743) ?_
            refine pn1 58 (some 196) (bz 77 576460752303423487) ?_
            refine pu1 59 (some 197) (bz 77 1152921504606846975) ?_
            refine pu1 60 (some 198) (bz 77 2305843009213693951) ?_
            refine pu1 61 (some 199) (bz 77 4611686018427387903) ?_
            refine pu1 62 (some 200) (bz 77 9223372036854775807) ?_
            refine pu1 63 (some 201) (bz 77 18446744073709551615) ?_
            refine pu1 64 (some 202) (bz 77 36893488147419103231) ?_
            refine pu1 65 (some 203) (bz 77 73786976294838206463) ?_
            refine ta1 66 (some 204) (bz 77 147573952589676412927) ?_
            refine pu1 67 (some 205) (bz 77 295147905179352825855) ?_
            refine pu1 68 (some 206) (bz 77 590295810358705651711) ?_
            refine pu1 69 (some 207) (bz 77 1180591620717411303423) ?_
            refine pu1 70 (some 208) (bz 77 2361183241434822606847) ?_
            refine pu1 71 (some 209) (bz 77 4722366482869645213695) ?_
            refine pu1 72 (some 210) (bz 77 9444732965739290427391) ?_
            refine ta1 73 (some 211) (bz 77 18889465931478580854783) ?_
            refine pu1 74 (some 212) (bz 77 37778931862957161709567) ?_
            refine pu1 75 (some 213) (bz 77 75557863725914323419135) ?_
            refine pu1 76 (some 214) (bz 77 151115727451828646838271) ?_
            refine done_ (done_of HT_.out (by kernel_rfl)) ?_
            try go_wp2
            go_meet
            case rel => exact ⟨_, ((((rd_T43 t238 x73_2).f2) == 0)), (by first | rfl | (simp; done) | (simp [*]; done) | (refine congrArg (Value.int _) ?_; simp only [xw_u32, xw_u8, i64_w, i32_w]; unfold wrap64; omega)), H', ⟨by have := HJ4.out; have := HK2.out; have := HJ30.out; first | omega | exact Nat.le_refl _⟩, ⟨by (with_reducible repeat (first | apply Kd.S_alloc | apply Kd.S_drewN | apply Kd.S_drew)); exact Kd.S_mono HO_3.out (fun _ hk => trivial)⟩, ⟨by refine xr ?_; exact HO_5.out⟩, ⟨by refine xr ?_; exact HO_7.out⟩, ⟨by refine xb ?_; exact BK235.out⟩, ⟨by refine xb ?_; exact BK246.out⟩, ⟨by refine xb ?_; exact BK251.out⟩, ⟨by repeat (first | (with_reducible exact HR255_0.out) | (with_reducible refine Kd.C_alloc ?_ _) | (with_reducible refine Kd.C_drewN ?_ _) | (with_reducible refine Kd.C_drew ?_) | exact HR255_0.out)⟩, ⟨by repeat (first | (with_reducible exact HR255_3.out) | (with_reducible refine Kd.C_alloc ?_ _) | (with_reducible refine Kd.C_drewN ?_ _) | (with_reducible refine Kd.C_drew ?_) | exact HR255_3.out)⟩, ⟨by exact xh HB.out⟩⟩
          subst c73
          have H1 : (if x73_2 < (t238.length : Int) then (if ((rd_T43 t238 x73_2).f1) = 0 then (if ((rd_T43 t238 x73_2).f2) = 0 then ((winchlaw21_ints.f kj30 ((rd_T43 t238 x73_2).f0) t252).bind fun t278 => (if t278 = true then (if x73_2 < (l0_3.length : Int) then ((winchlaw21_ints.f kj30 ((rd_T43 t238 x73_2).f3) (rd_L1 l0_3 x73_2)).bind fun t281 => (if t281 = true then (if (true = true) then (winchlaw21_BusHolds.j3 kj30 t238 t240 x7_2 l0_0 (l0_0.length : Int) x73_2 false l0_0 l0_1 a0_2 l0_3 l0_4 t239 ((rd_T40 l0_0 x73_2).f0) ((rd_T40 l0_0 x73_2).f1) ((rd_T40 l0_0 x73_2).f2) ((rd_T40 l0_0 x73_2).f3)) else (winchlaw21_BusHolds.j3 kj30 t238 t240 x7_2 l0_0 (l0_0.length : Int) x73_2 (((rd_T43 t238 x73_2).f2) == 0) l0_0 l0_1 a0_2 l0_3 l0_4 t239 ((rd_T40 l0_0 x73_2).f0) ((rd_T40 l0_0 x73_2).f1) ((rd_T40 l0_0 x73_2).f2) ((rd_T40 l0_0 x73_2).f3))) else (none))) else (none)) else (none))) else (none)) else (none)) else (none)) = some r := by rw [if_pos rfl] at H; exact H
          clear H
          have H := H1
          clear H1
          by_cases c74 : x73_2 < (t238.length : Int)
          rotate_left
          · rw [if_neg c74] at H
            exact absurd H (by simp)
          rw [if_pos c74] at H
          have c74b0 : decide (x73_2 < (t238.length : Int)) = true := decide_eq_true c74
          clear c74
          by_cases c75 : ((rd_T43 t238 x73_2).f1) = 0
          rotate_left
          · rw [if_neg c75] at H
            exact absurd H (by simp)
          rw [if_pos c75] at H
          have c75b0 : (((rd_T43 t238 x73_2).f1) == 0) = true := beq_iff_eq.mpr c75
          have c75b1 : (((rd_T43 t238 x73_2).f1) != 0) = false := bne_eq_false_iff_eq.mpr c75
          clear c75
          by_cases c76 : ((rd_T43 t238 x73_2).f2) = 0
          rotate_left
          · rw [if_neg c76] at H
            exact absurd H (by simp)
          rw [if_pos c76] at H
          have c76b0 : (((rd_T43 t238 x73_2).f2) == 0) = true := beq_iff_eq.mpr c76
          have c76b1 : (((rd_T43 t238 x73_2).f2) != 0) = false := bne_eq_false_iff_eq.mpr c76
          clear c76
          replace H := Option.bind_eq_some_iff.mp H
          obtain ⟨t278, A770, H⟩ := H
          replace H : (if t278 = true then (if x73_2 < (l0_3.length : Int) then ((winchlaw21_ints.f kj30 ((rd_T43 t238 x73_2).f3) (rd_L1 l0_3 x73_2)).bind fun t281 => (if t281 = true then (if (true = true) then (winchlaw21_BusHolds.j3 kj30 t238 t240 x7_2 l0_0 (l0_0.length : Int) x73_2 false l0_0 l0_1 a0_2 l0_3 l0_4 t239 ((rd_T40 l0_0 x73_2).f0) ((rd_T40 l0_0 x73_2).f1) ((rd_T40 l0_0 x73_2).f2) ((rd_T40 l0_0 x73_2).f3)) else (winchlaw21_BusHolds.j3 kj30 t238 t240 x7_2 l0_0 (l0_0.length : Int) x73_2 (((rd_T43 t238 x73_2).f2) == 0) l0_0 l0_1 a0_2 l0_3 l0_4 t239 ((rd_T40 l0_0 x73_2).f0) ((rd_T40 l0_0 x73_2).f1) ((rd_T40 l0_0 x73_2).f2) ((rd_T40 l0_0 x73_2).f3))) else (none))) else (none)) else (none)) = some r := H
          have A77 := Aside0.mk A770
          clear A770
          by_cases c78 : t278 = true
          rotate_left
          · replace c78 := Bool.eq_false_iff.mpr c78
            subst c78
            have H1 : (none) = some r := by rw [if_neg (show ¬ (false = true) by decide)] at H; exact H
            clear H
            have H := H1
            clear H1
            exact absurd H (by simp)
          subst c78
          have H1 : (if x73_2 < (l0_3.length : Int) then ((winchlaw21_ints.f kj30 ((rd_T43 t238 x73_2).f3) (rd_L1 l0_3 x73_2)).bind fun t281 => (if t281 = true then (if (true = true) then (winchlaw21_BusHolds.j3 kj30 t238 t240 x7_2 l0_0 (l0_0.length : Int) x73_2 false l0_0 l0_1 a0_2 l0_3 l0_4 t239 ((rd_T40 l0_0 x73_2).f0) ((rd_T40 l0_0 x73_2).f1) ((rd_T40 l0_0 x73_2).f2) ((rd_T40 l0_0 x73_2).f3)) else (winchlaw21_BusHolds.j3 kj30 t238 t240 x7_2 l0_0 (l0_0.length : Int) x73_2 (((rd_T43 t238 x73_2).f2) == 0) l0_0 l0_1 a0_2 l0_3 l0_4 t239 ((rd_T40 l0_0 x73_2).f0) ((rd_T40 l0_0 x73_2).f1) ((rd_T40 l0_0 x73_2).f2) ((rd_T40 l0_0 x73_2).f3))) else (none))) else (none)) = some r := by rw [if_pos rfl] at H; exact H
          clear H
          have H := H1
          clear H1
          by_cases c79 : x73_2 < (l0_3.length : Int)
          rotate_left
          · rw [if_neg c79] at H
            exact absurd H (by simp)
          rw [if_pos c79] at H
          have c79b0 : decide (x73_2 < (l0_3.length : Int)) = true := decide_eq_true c79
          clear c79
          replace H := Option.bind_eq_some_iff.mp H
          obtain ⟨t281, A800, H⟩ := H
          replace H : (if t281 = true then (if (true = true) then (winchlaw21_BusHolds.j3 kj30 t238 t240 x7_2 l0_0 (l0_0.length : Int) x73_2 false l0_0 l0_1 a0_2 l0_3 l0_4 t239 ((rd_T40 l0_0 x73_2).f0) ((rd_T40 l0_0 x73_2).f1) ((rd_T40 l0_0 x73_2).f2) ((rd_T40 l0_0 x73_2).f3)) else (winchlaw21_BusHolds.j3 kj30 t238 t240 x7_2 l0_0 (l0_0.length : Int) x73_2 (((rd_T43 t238 x73_2).f2) == 0) l0_0 l0_1 a0_2 l0_3 l0_4 t239 ((rd_T40 l0_0 x73_2).f0) ((rd_T40 l0_0 x73_2).f1) ((rd_T40 l0_0 x73_2).f2) ((rd_T40 l0_0 x73_2).f3))) else (none)) = some r := H
          have A80 := Aside0.mk A800
          clear A800
          by_cases c81 : t281 = true
          rotate_left
          · replace c81 := Bool.eq_false_iff.mpr c81
            subst c81
            have H1 : (none) = some r := by rw [if_neg (show ¬ (false = true) by decide)] at H; exact H
            clear H
            have H := H1
            clear H1
            exact absurd H (by simp)
          subst c81
          have H1 : (if (true = true) then (winchlaw21_BusHolds.j3 kj30 t238 t240 x7_2 l0_0 (l0_0.length : Int) x73_2 false l0_0 l0_1 a0_2 l0_3 l0_4 t239 ((rd_T40 l0_0 x73_2).f0) ((rd_T40 l0_0 x73_2).f1) ((rd_T40 l0_0 x73_2).f2) ((rd_T40 l0_0 x73_2).f3)) else (winchlaw21_BusHolds.j3 kj30 t238 t240 x7_2 l0_0 (l0_0.length : Int) x73_2 (((rd_T43 t238 x73_2).f2) == 0) l0_0 l0_1 a0_2 l0_3 l0_4 t239 ((rd_T40 l0_0 x73_2).f0) ((rd_T40 l0_0 x73_2).f1) ((rd_T40 l0_0 x73_2).f2) ((rd_T40 l0_0 x73_2).f3))) = some r := by rw [if_pos rfl] at H; exact H
          clear H
          have H := H1
          clear H1
          by_cases c82 : (true = true)
          · clear c82
            have H1 : (winchlaw21_BusHolds.j3 kj30 t238 t240 x7_2 l0_0 (l0_0.length : Int) x73_2 false l0_0 l0_1 a0_2 l0_3 l0_4 t239 ((rd_T40 l0_0 x73_2).f0) ((rd_T40 l0_0 x73_2).f1) ((rd_T40 l0_0 x73_2).f2) ((rd_T40 l0_0 x73_2).f3)) = some r := by rw [if_pos rfl] at H; exact H
            clear H
            have H := H1
            clear H1
            have H' := Aside0.mk H
            clear H
            try go_wp2
            replace HO_3 := Aside0.mk (Kd.S_drew HO_3.out)
            replace HO_5 := Aside0.mk (Kd.R_drew HO_5.out)
            replace HO_7 := Aside0.mk (Kd.R_drew HO_7.out)
            replace HO_10 := Aside0.mk (Kd.R_drew HO_10.out)
            replace BK235 := Aside0.mk (blk_drew BK235.out)
            replace BK246 := Aside0.mk (blk_drew BK246.out)
            replace BK251 := Aside0.mk (blk_drew BK251.out)
            replace HR255_0 := Aside0.mk (Kd.C_drew HR255_0.out)
            replace HR255_3 := Aside0.mk (Kd.C_drew HR255_3.out)
            replace HB := Aside0.mk (below_drew1 HB.out)
            obtain ⟨Ao84, co84, eo84⟩ := Kd.R_slice HO_5.out
            (first | subst eo84 | (injection eo84 with f1_ f2_ f3_; have f4_ := f1_.symm; have f5_ := f3_.symm; clear f1_ f2_ f3_; subst f4_; subst f5_))
            have p272 : 0 ≤ (x73_2 : Int) := of_decide_eq_true xa
            have q272 : x73_2 < (t240.length : Int) := of_decide_eq_true xa
            obtain ⟨ad272, e272, hx272_0, hx272_1⟩ := at_T47 (Kd.R_reads' HO_5.out).2.2 x73_2 p272 q272
            (try rw [← Nbq72.out] at hx272_1)
            cases e272
            replace p272 := eq_true p272
            replace q272 := eq_true q272
            have p273 : 0 ≤ (x73_2 : Int) := of_decide_eq_true xa
            have q273 : x73_2 < (t240.length : Int) := of_decide_eq_true xa
            obtain ⟨ad273, e273, hx273_0, hx273_1⟩ := at_T47 (Kd.R_reads' HO_5.out).2.2 x73_2 p273 q273
            (try rw [← Nbq72.out] at hx273_1)
            obtain rfl : ad272 = ad273 := (by injection e273)
            replace p273 := eq_true p273
            replace q273 := eq_true q273
            have p274 : 0 ≤ (x73_2 : Int) := of_decide_eq_true xa
            have q274 : x73_2 < (t240.length : Int) := of_decide_eq_true xa
            obtain ⟨ad274, e274, hx274_0, hx274_1⟩ := at_T47 (Kd.R_reads' HO_5.out).2.2 x73_2 p274 q274
            (try rw [← Nbq72.out] at hx274_1)
            obtain rfl : ad272 = ad274 := (by injection e274)
            replace p274 := eq_true p274
            replace q274 := eq_true q274
            have p275 : 0 ≤ (x73_2 : Int) := of_decide_eq_true xa
            have q275 : x73_2 < (t238.length : Int) := of_decide_eq_true xa
            obtain ⟨ad275, A275_0, c275_0, A275_3, c275_3, e275, hx275_0, hx275_1, hx275_2, hx275_3, hl275_0, hi275_0, hl275_3, hi275_3⟩ := at_T43 (Kd.S_reads' HO_3.out).2.2 x73_2 p275 q275
            obtain rfl : ad255 = ad275 := (by injection e275)
            obtain ⟨ce275, hce275, hMe275, hcc275⟩ := Kd.S_get HO_3.out z43 x73_2 p275 (by first | exact q275 | exact of_decide_eq_true xa | (have e_ := (Kd.S_reads' HO_3.out).1; omega))
            obtain ⟨ve275_0, ve275_3, rfl, ge275_0, ge275_3⟩ := k43_openM hMe275
            have hv275_0 := hcc275 0 _ rfl
            rw [Nat.add_zero] at hv275_0
            replace hv275_0 := Option.some.inj (hv275_0.symm.trans hx275_0)
            rw [hv275_0] at ge275_0
            have HL275_0 := Aside0.mk (show Kd.R (Kd.int .i64) 3 _ _ _ _ ((rd_T43 t238 x73_2).f0) from ge275_0)
            clear hv275_0 ge275_0
            have hv275_3 := hcc275 3 _ rfl
            rw [add_field _ _ 3 (by omega)] at hv275_3
            replace hv275_3 := Option.some.inj (hv275_3.symm.trans hx275_3)
            rw [hv275_3] at ge275_3
            have HL275_3 := Aside0.mk (show Kd.R (Kd.int .i64) 3 _ _ _ _ ((rd_T43 t238 x73_2).f3) from ge275_3)
            clear hv275_3 ge275_3
            clear hcc275 hce275
            have HR275_0 := Aside0.mk hi275_0
            have HC275_0 := Aside0.mk hl275_0
            clear hi275_0 hl275_0
            have HR275_3 := Aside0.mk hi275_3
            have HC275_3 := Aside0.mk hl275_3
            clear hi275_3 hl275_3
            replace p275 := eq_true p275
            replace q275 := eq_true q275
            have p276 : 0 ≤ (x73_2 : Int) := of_decide_eq_true xa
            have q276 : x73_2 < (t238.length : Int) := of_decide_eq_true xa
            obtain ⟨ad276, A276_0, c276_0, A276_3, c276_3, e276, hx276_0, hx276_1, hx276_2, hx276_3, hl276_0, hi276_0, hl276_3, hi276_3⟩ := at_T43 (Kd.S_reads' HO_3.out).2.2 x73_2 p276 q276
            obtain rfl : ad255 = ad276 := (by injection e276)
            obtain ⟨ce276, hce276, hMe276, hcc276⟩ := Kd.S_get HO_3.out z43 x73_2 p276 (by first | exact q276 | exact of_decide_eq_true xa | (have e_ := (Kd.S_reads' HO_3.out).1; omega))
            obtain ⟨ve276_0, ve276_3, rfl, ge276_0, ge276_3⟩ := k43_openM hMe276
            have hv276_0 := hcc276 0 _ rfl
            rw [Nat.add_zero] at hv276_0
            replace hv276_0 := Option.some.inj (hv276_0.symm.trans hx276_0)
            rw [hv276_0] at ge276_0
            have HL276_0 := Aside0.mk (show Kd.R (Kd.int .i64) 3 _ _ _ _ ((rd_T43 t238 x73_2).f0) from ge276_0)
            clear hv276_0 ge276_0
            have hv276_3 := hcc276 3 _ rfl
            rw [add_field _ _ 3 (by omega)] at hv276_3
            replace hv276_3 := Option.some.inj (hv276_3.symm.trans hx276_3)
            rw [hv276_3] at ge276_3
            have HL276_3 := Aside0.mk (show Kd.R (Kd.int .i64) 3 _ _ _ _ ((rd_T43 t238 x73_2).f3) from ge276_3)
            clear hv276_3 ge276_3
            clear hcc276 hce276
            have HR276_0 := Aside0.mk hi276_0
            have HC276_0 := Aside0.mk hl276_0
            clear hi276_0 hl276_0
            have HR276_3 := Aside0.mk hi276_3
            have HC276_3 := Aside0.mk hl276_3
            clear hi276_3 hl276_3
            replace p276 := eq_true p276
            replace q276 := eq_true q276
            have ea_ := Option.some.inj (hx275_0.symm.trans hx276_0)
            injection ea_ with ea_ en_ ec_
            subst ea_
            subst ec_
            clear en_
            have ea_ := Option.some.inj (hx275_3.symm.trans hx276_3)
            injection ea_ with ea_ en_ ec_
            subst ea_
            subst ec_
            clear en_
            have p277 : 0 ≤ (x73_2 : Int) := of_decide_eq_true xa
            have q277 : x73_2 < (t238.length : Int) := of_decide_eq_true xa
            obtain ⟨ad277, A277_0, c277_0, A277_3, c277_3, e277, hx277_0, hx277_1, hx277_2, hx277_3, hl277_0, hi277_0, hl277_3, hi277_3⟩ := at_T43 (Kd.S_reads' HO_3.out).2.2 x73_2 p277 q277
            obtain rfl : ad255 = ad277 := (by injection e277)
            obtain ⟨ce277, hce277, hMe277, hcc277⟩ := Kd.S_get HO_3.out z43 x73_2 p277 (by first | exact q277 | exact of_decide_eq_true xa | (have e_ := (Kd.S_reads' HO_3.out).1; omega))
            obtain ⟨ve277_0, ve277_3, rfl, ge277_0, ge277_3⟩ := k43_openM hMe277
            have hv277_0 := hcc277 0 _ rfl
            rw [Nat.add_zero] at hv277_0
            replace hv277_0 := Option.some.inj (hv277_0.symm.trans hx277_0)
            rw [hv277_0] at ge277_0
            have HL277_0 := Aside0.mk (show Kd.R (Kd.int .i64) 3 _ _ _ _ ((rd_T43 t238 x73_2).f0) from ge277_0)
            clear hv277_0 ge277_0
            have hv277_3 := hcc277 3 _ rfl
            rw [add_field _ _ 3 (by omega)] at hv277_3
            replace hv277_3 := Option.some.inj (hv277_3.symm.trans hx277_3)
            rw [hv277_3] at ge277_3
            have HL277_3 := Aside0.mk (show Kd.R (Kd.int .i64) 3 _ _ _ _ ((rd_T43 t238 x73_2).f3) from ge277_3)
            clear hv277_3 ge277_3
            clear hcc277 hce277
            have HR277_0 := Aside0.mk hi277_0
            have HC277_0 := Aside0.mk hl277_0
            clear hi277_0 hl277_0
            have HR277_3 := Aside0.mk hi277_3
            have HC277_3 := Aside0.mk hl277_3
            clear hi277_3 hl277_3
            replace p277 := eq_true p277
            replace q277 := eq_true q277
            have ea_ := Option.some.inj (hx275_0.symm.trans hx277_0)
            injection ea_ with ea_ en_ ec_
            subst ea_
            subst ec_
            clear en_
            have ea_ := Option.some.inj (hx275_3.symm.trans hx277_3)
            injection ea_ with ea_ en_ ec_
            subst ea_
            subst ec_
            clear en_
            obtain ⟨Ao85, co85, eo85⟩ := Kd.R_slice HO_10.out
            (first | subst eo85 | (injection eo85 with f1_ f2_ f3_; have f4_ := f1_.symm; have f5_ := f3_.symm; clear f1_ f2_ f3_; subst f4_; subst f5_))
            have p279 : 0 ≤ (x73_2 : Int) := of_decide_eq_true xa
            have q279 : x73_2 < (t238.length : Int) := of_decide_eq_true xa
            obtain ⟨ad279, A279_0, c279_0, A279_3, c279_3, e279, hx279_0, hx279_1, hx279_2, hx279_3, hl279_0, hi279_0, hl279_3, hi279_3⟩ := at_T43 (Kd.S_reads' HO_3.out).2.2 x73_2 p279 q279
            obtain rfl : ad255 = ad279 := (by injection e279)
            obtain ⟨ce279, hce279, hMe279, hcc279⟩ := Kd.S_get HO_3.out z43 x73_2 p279 (by first | exact q279 | exact of_decide_eq_true xa | (have e_ := (Kd.S_reads' HO_3.out).1; omega))
            obtain ⟨ve279_0, ve279_3, rfl, ge279_0, ge279_3⟩ := k43_openM hMe279
            have hv279_0 := hcc279 0 _ rfl
            rw [Nat.add_zero] at hv279_0
            replace hv279_0 := Option.some.inj (hv279_0.symm.trans hx279_0)
            rw [hv279_0] at ge279_0
            have HL279_0 := Aside0.mk (show Kd.R (Kd.int .i64) 3 _ _ _ _ ((rd_T43 t238 x73_2).f0) from ge279_0)
            clear hv279_0 ge279_0
            have hv279_3 := hcc279 3 _ rfl
            rw [add_field _ _ 3 (by omega)] at hv279_3
            replace hv279_3 := Option.some.inj (hv279_3.symm.trans hx279_3)
            rw [hv279_3] at ge279_3
            have HL279_3 := Aside0.mk (show Kd.R (Kd.int .i64) 3 _ _ _ _ ((rd_T43 t238 x73_2).f3) from ge279_3)
            clear hv279_3 ge279_3
            clear hcc279 hce279
            have HR279_0 := Aside0.mk hi279_0
            have HC279_0 := Aside0.mk hl279_0
            clear hi279_0 hl279_0
            have HR279_3 := Aside0.mk hi279_3
            have HC279_3 := Aside0.mk hl279_3
            clear hi279_3 hl279_3
            replace p279 := eq_true p279
            replace q279 := eq_true q279
            have ea_ := Option.some.inj (hx275_0.symm.trans hx279_0)
            injection ea_ with ea_ en_ ec_
            subst ea_
            subst ec_
            clear en_
            have ea_ := Option.some.inj (hx275_3.symm.trans hx279_3)
            injection ea_ with ea_ en_ ec_
            subst ea_
            subst ec_
            clear en_
            have p280 : 0 ≤ (x73_2 : Int) := of_decide_eq_true xa
            have q280 : x73_2 < (l0_3.length : Int) := of_decide_eq_true xa
            obtain ⟨ad280, A280_0, c280_0, e280, hx280_0, hl280_0, hi280_0⟩ := at_L1 HR0_3.out x73_2 p280 q280
            have hw280_0 := hx280_0
            cases e280
            replace hx280_0 := yu HB hx280_0
            have HR280_0 := Aside0.mk hi280_0
            have HC280_0 := Aside0.mk hl280_0
            clear hi280_0 hl280_0
            replace p280 := eq_true p280
            replace q280 := eq_true q280
            have p282 : 0 ≤ (x73_2 : Int) := of_decide_eq_true xa
            have q282 : x73_2 < (t240.length : Int) := of_decide_eq_true xa
            obtain ⟨ad282, e282, hx282_0, hx282_1⟩ := at_T47 (Kd.R_reads' HO_5.out).2.2 x73_2 p282 q282
            (try rw [← Nbq72.out] at hx282_1)
            obtain rfl : ad272 = ad282 := (by injection e282)
            replace p282 := eq_true p282
            replace q282 := eq_true q282
            refine start_ (n := 77) (S := fun w' => w'.cell? ⟨gb235, 0, none⟩ = some (.slice (some ad250) l0_0.length c0_0) ∧ w'.cell? ⟨gb235, 1, none⟩ = some (.slice A0_1 l0_1.length c0_1) ∧ w'.cell? ⟨gb235, 194, none⟩ = some (.slice (some ad280) l0_3.length c0_3) ∧ w'.cell? ⟨gb235, 195, none⟩ = some (.slice A0_4 l0_4.length c0_4) ∧ w'.cell? (ad272.add ((x73_2).toNat * 2)) = some (.int .i64 ((rd_T47 t240 x73_2).f0)) ∧ w'.cell? ⟨(ad272.add ((x73_2).toNat * 2)).block, (ad272.add ((x73_2).toNat * 2)).off + 1, none⟩ = some (.bool true) ∧ w'.cell? (ad272.add ((x73_2).toNat * 2)) = some (.int .i64 ((rd_T47 t240 x73_2).f0)) ∧ w'.cell? ⟨(ad272.add ((x73_2).toNat * 2)).block, (ad272.add ((x73_2).toNat * 2)).off + 1, none⟩ = some (.bool true) ∧ w'.cell? (ad272.add ((x73_2).toNat * 2)) = some (.int .i64 ((rd_T47 t240 x73_2).f0)) ∧ w'.cell? ⟨(ad272.add ((x73_2).toNat * 2)).block, (ad272.add ((x73_2).toNat * 2)).off + 1, none⟩ = some (.bool true) ∧ w'.cell? (ad255.add ((x73_2).toNat * 4)) = some (.slice A275_0 ((rd_T43 t238 x73_2).f0).length c275_0) ∧ w'.cell? ⟨(ad255.add ((x73_2).toNat * 4)).block, (ad255.add ((x73_2).toNat * 4)).off + 1, none⟩ = some (.int .i64 ((rd_T43 t238 x73_2).f1)) ∧ w'.cell? ⟨(ad255.add ((x73_2).toNat * 4)).block, (ad255.add ((x73_2).toNat * 4)).off + 2, none⟩ = some (.int .i64 ((rd_T43 t238 x73_2).f2)) ∧ w'.cell? ⟨(ad255.add ((x73_2).toNat * 4)).block, (ad255.add ((x73_2).toNat * 4)).off + 3, none⟩ = some (.slice A275_3 ((rd_T43 t238 x73_2).f3).length c275_3) ∧ w'.cell? (ad255.add ((x73_2).toNat * 4)) = some (.slice A275_0 ((rd_T43 t238 x73_2).f0).length c275_0) ∧ w'.cell? ⟨(ad255.add ((x73_2).toNat * 4)).block, (ad255.add ((x73_2).toNat * 4)).off + 1, none⟩ = some (.int .i64 ((rd_T43 t238 x73_2).f1)) ∧ w'.cell? ⟨(ad255.add ((x73_2).toNat * 4)).block, (ad255.add ((x73_2).toNat * 4)).off + 2, none⟩ = some (.int .i64 ((rd_T43 t238 x73_2).f2)) ∧ w'.cell? ⟨(ad255.add ((x73_2).toNat * 4)).block, (ad255.add ((x73_2).toNat * 4)).off + 3, none⟩ = some (.slice A275_3 ((rd_T43 t238 x73_2).f3).length c275_3) ∧ w'.cell? (ad255.add ((x73_2).toNat * 4)) = some (.slice A275_0 ((rd_T43 t238 x73_2).f0).length c275_0) ∧ w'.cell? ⟨(ad255.add ((x73_2).toNat * 4)).block, (ad255.add ((x73_2).toNat * 4)).off + 1, none⟩ = some (.int .i64 ((rd_T43 t238 x73_2).f1)) ∧ w'.cell? ⟨(ad255.add ((x73_2).toNat * 4)).block, (ad255.add ((x73_2).toNat * 4)).off + 2, none⟩ = some (.int .i64 ((rd_T43 t238 x73_2).f2)) ∧ w'.cell? ⟨(ad255.add ((x73_2).toNat * 4)).block, (ad255.add ((x73_2).toNat * 4)).off + 3, none⟩ = some (.slice A275_3 ((rd_T43 t238 x73_2).f3).length c275_3) ∧ w'.cell? (ad255.add ((x73_2).toNat * 4)) = some (.slice A275_0 ((rd_T43 t238 x73_2).f0).length c275_0) ∧ w'.cell? ⟨(ad255.add ((x73_2).toNat * 4)).block, (ad255.add ((x73_2).toNat * 4)).off + 1, none⟩ = some (.int .i64 ((rd_T43 t238 x73_2).f1)) ∧ w'.cell? ⟨(ad255.add ((x73_2).toNat * 4)).block, (ad255.add ((x73_2).toNat * 4)).off + 2, none⟩ = some (.int .i64 ((rd_T43 t238 x73_2).f2)) ∧ w'.cell? ⟨(ad255.add ((x73_2).toNat * 4)).block, (ad255.add ((x73_2).toNat * 4)).off + 3, none⟩ = some (.slice A275_3 ((rd_T43 t238 x73_2).f3).length c275_3) ∧ w'.cell? (ad280.add (x73_2).toNat) = some (.slice A280_0 (rd_L1 l0_3 x73_2).length c280_0) ∧ w'.cell? (ad272.add ((x73_2).toNat * 2)) = some (.int .i64 ((rd_T47 t240 x73_2).f0)) ∧ w'.cell? ⟨(ad272.add ((x73_2).toNat * 2)).block, (ad272.add ((x73_2).toNat * 2)).off + 1, none⟩ = some (.bool (true))) (ds := []) (bz 77 0) (by kernel_rfl) rfl rfl ⟨(blk_cell BK235.out 0).trans (im_ahead _ _ _ rfl), (blk_cell BK235.out 1).trans (im_ahead _ _ _ rfl), (blk_cell BK235.out 194).trans (im_behind _ _ _ 0 rfl rfl), (blk_cell BK235.out 195).trans (im_behind _ _ _ 1 rfl rfl), hx272_0, hx272_1, hx273_0, hx273_1, hx274_0, hx274_1, hx275_0, hx275_1, hx275_2, hx275_3, hx276_0, hx276_1, hx276_2, hx276_3, hx277_0, hx277_1, hx277_2, hx277_3, hx279_0, hx279_1, hx279_2, hx279_3, ((HB.out.cell (World.block_lt_of_cell? w _ hw280_0)).trans hw280_0), hx282_0, hx282_1⟩ (fun hHeld => ?_); refine with_tabW winchlaw21_BusHolds.tab14 winchlaw21_BusHolds.bits14 (fun HT_ HW_ => ?_)
            generalize wc.drew = w83 at HO_3 HO_5 HO_7 HO_10 BK235 BK246 BK251 HR255_0 HR255_3 HB HL275_0 HL275_3 HL276_0 HL276_3 HL277_0 HL277_3 HL279_0 HL279_3 HR275_0 HR275_3 HR276_0 HR276_3 HR277_0 HR277_3 HR279_0 HR279_3 HR280_0 hx272_0 hx272_1 hx273_0 hx273_1 hx274_0 hx274_1 hx275_0 hx275_1 hx275_2 hx275_3 hx276_0 hx276_1 hx276_2 hx276_3 hx277_0 hx277_1 hx277_2 hx277_3 hx279_0 hx279_1 hx279_2 hx279_3 hx280_0 hx282_0 hx282_1 hHeld ⊢
            refine pu1 0 (some 138) (bz 77 1) ?_
            refine pu1 1 (some 139) (bz 77 3) ?_
            refine pu1 2 (some 140) (bz 77 7) ?_
            refine pu1 3 (some 141) (bz 77 15) ?_
            refine ta1 4 (some 142) (bz 77 31) ?_
            refine pu1 5 (some 143) (bz 77 63) ?_
            refine pu1 6 (some 144) (bz 77 127) ?_
            refine pu1 7 (some 145) (bz 77 255) ?_
            refine pu1 8 (some 146) (bz 77 511) ?_
            refine pu1 9 (some 147) (bz 77 1023) ?_
            refine pu1 10 (some 148) (bz 77 2047) ?_
            refine ta1 11 (some 149) (bz 77 4095) ?_
            refine pu1 12 (some 150) (bz 77 8191) ?_
            refine pu1 13 (some 151) (bz 77 16383) ?_
            refine pu1 14 (some 152) (bz 77 32767) ?_
            refine pu1 15 (some 153) (bz 77 65535) ?_
            refine pu1 16 (some 154) (bz 77 131071) ?_
            refine pu1 17 (some 155) (bz 77 262143) ?_
            refine pu1 18 (some 156) (bz 77 524287) ?_
            refine ta1 19 (some 157) (bz 77 1048575) ?_
            refine pu1 20 (some 158) (bz 77 2097151) ?_
            refine pu1 21 (some 159) (bz 77 4194303) ?_
            refine pu1 22 (some 160) (bz 77 8388607) ?_
            refine pu1 23 (some 161) (bz 77 16777215) ?_
            refine pu1 24 (some 162) (bz 77 33554431) ?_
            refine ta1 25 (some 163) (bz 77 67108863) ?_
            refine pu1 26 (some 164) (bz 77 134217727) ?_
            refine pu1 27 (some 165) (bz 77 268435455) ?_
            refine pu1 28 (some 166) (bz 77 536870911) ?_
            refine pu1 29 (some 167) (bz 77 1073741823) ?_
            refine pu1 30 (some 168) (bz 77 2147483647) ?_
            refine pu1 31 (some 169) (bz 77 4294967295) ?_
            refine ta1 32 (some 170) (bz 77 8589934591) ?_
            refine pu1 33 (some 171) (bz 77 17179869183) ?_
            refine pu1 34 (some 172) (bz 77 34359738367) ?_
            refine pu1 35 (some 173) (bz 77 68719476735) ?_
            refine pu1 36 (some 174) (bz 77 137438953471) ?_
            refine pu1 37 (some 175) (bz 77 274877906943) ?_
            refine pu1 38 (some 176) (bz 77 549755813887) ?_
            refine pu1 39 (some 177) (bz 77 1099511627775) ?_
            refine pu1 41 (some 179) (bz 77 3298534883327) ?_
            refine ta1 40 (some 178) (bz 77 4398046511103) ?_
            refine one_ (i := 42) (N := some 180) (bz 77 8796093022207) rfl rfl (one_of HT_.out (by kernel_rfl)) (by decide) (fun K hK => ?_)
            refine goes_ Try.func14 (by kernel_rfl) rfl #[.slice A275_0 ((rd_T43 t238 x73_2).f0).length c275_0, .slice Ao85 t252.length co85] (by rfl) rfl rfl xl ?_
            with_reducible refine (winchlaw21_ints.calls kj30 _ _ ((rd_T43 t238 x73_2).f0) _ _ t252 true _ ?side1 ?side2 ?side3 ?side4 A77.out).mono ?_
            (case side1 => repeat (first | exact (by repeat (first | (with_reducible exact HR277_0.out) | (with_reducible refine Kd.C_alloc ?_ _) | (with_reducible refine Kd.C_drewN ?_ _) | (with_reducible refine Kd.C_drew ?_) | exact HR277_0.out)) | (with_reducible refine Kd.C_alloc ?_ _) | (with_reducible refine Kd.C_drewN ?_ _) | (with_reducible refine Kd.C_drew ?_)))
            (case side2 => exact HC277_0.out)
            (case side3 => exact xC ((Kd.R_reads' HO_10.out).2.2))
            (case side4 => exact (Kd.R_reads' HO_10.out).2.1)
            rintro e w' ⟨rfl, ⟨nd, rfl⟩⟩
            refine ⟨_, rfl, ?_⟩
            refine hK.out _ _ ⟨(blk_cell BK235.out 0).trans (im_ahead _ _ _ rfl), (blk_cell BK235.out 1).trans (im_ahead _ _ _ rfl), (blk_cell BK235.out 194).trans (im_behind _ _ _ 0 rfl rfl), (blk_cell BK235.out 195).trans (im_behind _ _ _ 1 rfl rfl), hHeld.2.2.2.2.1, hHeld.2.2.2.2.2.1, hHeld.2.2.2.2.2.2.1, hHeld.2.2.2.2.2.2.2.1, hHeld.2.2.2.2.2.2.2.2.1, hHeld.2.2.2.2.2.2.2.2.2.1, hHeld.2.2.2.2.2.2.2.2.2.2.1, hHeld.2.2.2.2.2.2.2.2.2.2.2.1, hHeld.2.2.2.2.2.2.2.2.2.2.2.2.1, hHeld.2.2.2.2.2.2.2.2.2.2.2.2.2.1, hHeld.2.2.2.2.2.2.2.2.2.2.2.2.2.2.1, hHeld.2.2.2.2.2.2.2.2.2.2.2.2.2.2.2.1, hHeld.2.2.2.2.2.2.2.2.2.2.2.2.2.2.2.2.1, hHeld.2.2.2.2.2.2.2.2.2.2.2.2.2.2.2.2.2.1, hHeld.2.2.2.2.2.2.2.2.2.2.2.2.2.2.2.2.2.2.1, hHeld.2.2.2.2.2.2.2.2.2.2.2.2.2.2.2.2.2.2.2.1, hHeld.2.2.2.2.2.2.2.2.2.2.2.2.2.2.2.2.2.2.2.2.1, hHeld.2.2.2.2.2.2.2.2.2.2.2.2.2.2.2.2.2.2.2.2.2.1, hHeld.2.2.2.2.2.2.2.2.2.2.2.2.2.2.2.2.2.2.2.2.2.2.1, hHeld.2.2.2.2.2.2.2.2.2.2.2.2.2.2.2.2.2.2.2.2.2.2.2.1, hHeld.2.2.2.2.2.2.2.2.2.2.2.2.2.2.2.2.2.2.2.2.2.2.2.2.1, hHeld.2.2.2.2.2.2.2.2.2.2.2.2.2.2.2.2.2.2.2.2.2.2.2.2.2.1, ((HB.out.cell (World.block_lt_of_cell? w _ hw280_0)).trans hw280_0), hHeld.2.2.2.2.2.2.2.2.2.2.2.2.2.2.2.2.2.2.2.2.2.2.2.2.2.2.2.1, hHeld.2.2.2.2.2.2.2.2.2.2.2.2.2.2.2.2.2.2.2.2.2.2.2.2.2.2.2.2⟩ (fun hHeld => ?_)
            clear hK K
            refine norm_ (a' := ?_) ?_ ?_
            rotate_left
            · show Act.put _ (some 180) _ = _
              simp only [Act.put, List.setIfInBounds_toArray, List.set_cons_zero, List.set_cons_succ, i64_w, i32_w]
              rfl
            refine pu1 43 (some 181) (bz 77 17592186044415) ?_
            refine pu1 44 (some 182) (bz 77 35184372088831) ?_
            refine pu1 45 (some 183) (bz 77 70368744177663) ?_
            refine pu1 46 (some 184) (bz 77 140737488355327) ?_
            refine pu1 47 (some 185) (bz 77 281474976710655) ?_
            refine pu1 48 (some 186) (bz 77 562949953421311) ?_
            refine pu1 49 (some 187) (bz 77 1125899906842623) ?_
            refine pu1 51 (some 189) (bz 77 3377699720527871) ?_
            refine pu1 53 (some 191) (bz 77 12384898975268863) ?_
            refine ta1 50 (some 188) (bz 77 13510798882111487) ?_
            refine ta1 52 (some 190) (bz 77 18014398509481983) ?_
            refine pu1 54 (some 192) (bz 77 36028797018963967) ?_
            refine ta1 55 (some 193) (bz 77 72057594037927935) ?_
            refine one_ (i := 56) (N := some 194) (bz 77 144115188075855871) rfl rfl (one_of HT_.out (by kernel_rfl)) (by decide) (fun K hK => ?_)
            refine goes_ Try.func14 (by kernel_rfl) rfl #[.slice A275_3 ((rd_T43 t238 x73_2).f3).length c275_3, .slice A280_0 (rd_L1 l0_3 x73_2).length c280_0] (by rfl) rfl rfl xl ?_
            with_reducible refine (winchlaw21_ints.calls kj30 _ _ ((rd_T43 t238 x73_2).f3) _ _ (rd_L1 l0_3 x73_2) true _ ?side1 ?side2 ?side3 ?side4 A80.out).mono ?_
            (case side1 => repeat (first | exact (by repeat (first | (with_reducible exact HR279_3.out) | (with_reducible refine Kd.C_alloc ?_ _) | (with_reducible refine Kd.C_drewN ?_ _) | (with_reducible refine Kd.C_drew ?_) | exact HR279_3.out)) | (with_reducible refine Kd.C_alloc ?_ _) | (with_reducible refine Kd.C_drewN ?_ _) | (with_reducible refine Kd.C_drew ?_)))
            (case side2 => exact HC279_3.out)
            (case side3 => exact xC ((Kd.C_below HR280_0.out (xh HB.out))))
            (case side4 => exact HC280_0.out)
            rintro e w' ⟨rfl, ⟨nd, rfl⟩⟩
            refine ⟨_, rfl, ?_⟩
            refine hK.out _ _ ⟨(blk_cell BK235.out 0).trans (im_ahead _ _ _ rfl), (blk_cell BK235.out 1).trans (im_ahead _ _ _ rfl), (blk_cell BK235.out 194).trans (im_behind _ _ _ 0 rfl rfl), (blk_cell BK235.out 195).trans (im_behind _ _ _ 1 rfl rfl), hHeld.2.2.2.2.1, hHeld.2.2.2.2.2.1, hHeld.2.2.2.2.2.2.1, hHeld.2.2.2.2.2.2.2.1, hHeld.2.2.2.2.2.2.2.2.1, hHeld.2.2.2.2.2.2.2.2.2.1, hHeld.2.2.2.2.2.2.2.2.2.2.1, hHeld.2.2.2.2.2.2.2.2.2.2.2.1, hHeld.2.2.2.2.2.2.2.2.2.2.2.2.1, hHeld.2.2.2.2.2.2.2.2.2.2.2.2.2.1, hHeld.2.2.2.2.2.2.2.2.2.2.2.2.2.2.1, hHeld.2.2.2.2.2.2.2.2.2.2.2.2.2.2.2.1, hHeld.2.2.2.2.2.2.2.2.2.2.2.2.2.2.2.2.1, hHeld.2.2.2.2.2.2.2.2.2.2.2.2.2.2.2.2.2.1, hHeld.2.2.2.2.2.2.2.2.2.2.2.2.2.2.2.2.2.2.1, hHeld.2.2.2.2.2.2.2.2.2.2.2.2.2.2.2.2.2.2.2.1, hHeld.2.2.2.2.2.2.2.2.2.2.2.2.2.2.2.2.2.2.2.2.1, hHeld.2.2.2.2.2.2.2.2.2.2.2.2.2.2.2.2.2.2.2.2.2.1, hHeld.2.2.2.2.2.2.2.2.2.2.2.2.2.2.2.2.2.2.2.2.2.2.1, hHeld.2.2.2.2.2.2.2.2.2.2.2.2.2.2.2.2.2.2.2.2.2.2.2.1, hHeld.2.2.2.2.2.2.2.2.2.2.2.2.2.2.2.2.2.2.2.2.2.2.2.2.1, hHeld.2.2.2.2.2.2.2.2.2.2.2.2.2.2.2.2.2.2.2.2.2.2.2.2.2.1, ((HB.out.cell (World.block_lt_of_cell? w _ hw280_0)).trans hw280_0), hHeld.2.2.2.2.2.2.2.2.2.2.2.2.2.2.2.2.2.2.2.2.2.2.2.2.2.2.2.1, hHeld.2.2.2.2.2.2.2.2.2.2.2.2.2.2.2.2.2.2.2.2.2.2.2.2.2.2.2.2⟩ (fun hHeld => ?_)
            clear hK K
            refine norm_ (a' := ?_) ?_ ?_
            rotate_left
            · show Act.put _ (some 194) _ = _
              simp only [Act.put, List.setIfInBounds_toArray, List.set_cons_zero, List.set_cons_succ, i64_w, i32_w]
              rfl
            refine pu1 57 (some 195) (bz 77 288230376151711743) ?_
            refine pu1 58 (some 196) (bz 77 576460752303423487) ?_
            refine pu1 59 (some 197) (bz 77 1152921504606846975) ?_
            refine pu1 60 (some 198) (bz 77 2305843009213693951) ?_
            refine pu1 61 (some 199) (bz 77 4611686018427387903) ?_
            refine pu1 62 (some 200) (bz 77 9223372036854775807) ?_
            refine pu1 63 (some 201) (bz 77 18446744073709551615) ?_
            refine pu1 64 (some 202) (bz 77 36893488147419103231) ?_
            refine pu1 65 (some 203) (bz 77 73786976294838206463) ?_
            refine ta1 66 (some 204) (bz 77 147573952589676412927) ?_
            refine pu1 67 (some 205) (bz 77 295147905179352825855) ?_
            refine pu1 68 (some 206) (bz 77 590295810358705651711) ?_
            refine pn1 69 (some 207) (bz 77 1180591620717411303423) ?_
            refine pn1 70 (some 208) (bz 77 2361183241434822606847) ?_
            refine pn1 71 (some 209) (bz 77 4722366482869645213695) ?_
            refine pn1 72 (some 210) (bz 77 9444732965739290427391) ?_
            refine pn1 73 (some 211) (bz 77 18889465931478580854783) ?_
            refine pn1 74 (some 212) (bz 77 37778931862957161709567) ?_
            refine pu1 75 (some 213) (bz 77 75557863725914323419135) ?_
            refine pu1 76 (some 214) (bz 77 151115727451828646838271) ?_
            refine done_ (done_of HT_.out (by kernel_rfl)) ?_
            try go_wp2
            go_meet
            case rel => exact ⟨_, (false), (by first | rfl | (simp; done) | (simp [*]; done) | (refine congrArg (Value.int _) ?_; simp only [xw_u32, xw_u8, i64_w, i32_w]; unfold wrap64; omega)), H', ⟨by have := HJ4.out; have := HK2.out; have := HJ30.out; first | omega | exact Nat.le_refl _⟩, ⟨by (with_reducible repeat (first | apply Kd.S_alloc | apply Kd.S_drewN | apply Kd.S_drew)); exact Kd.S_mono HO_3.out (fun _ hk => trivial)⟩, ⟨by refine xr ?_; exact HO_5.out⟩, ⟨by refine xr ?_; exact HO_7.out⟩, ⟨by refine xb ?_; exact BK235.out⟩, ⟨by refine xb ?_; exact BK246.out⟩, ⟨by refine xb ?_; exact BK251.out⟩, ⟨by repeat (first | (with_reducible exact HR255_0.out) | (with_reducible refine Kd.C_alloc ?_ _) | (with_reducible refine Kd.C_drewN ?_ _) | (with_reducible refine Kd.C_drew ?_) | exact HR255_0.out)⟩, ⟨by repeat (first | (with_reducible exact HR255_3.out) | (with_reducible refine Kd.C_alloc ?_ _) | (with_reducible refine Kd.C_drewN ?_ _) | (with_reducible refine Kd.C_drew ?_) | exact HR255_3.out)⟩, ⟨by exact xh HB.out⟩⟩
          exact absurd rfl c82
        case rest =>
          as_aux_lemma =>
          clear HC67
          try clear c2; try clear p2; try clear q2; try clear hx2; try clear c6; try clear q7; try clear c8; try clear c9; try clear p27; try clear q27; try clear hx27; try clear c28; try clear p28; try clear q28; try clear hx28; try clear c68; try clear c69; try clear q72; try clear c89; try clear c92; try clear c92b0; try clear hx272_0; try clear hx272_1; try clear hx273_0; try clear hx273_1; try clear hx274_0; try clear hx274_1; try clear hx284_0; try clear hx284_1; try clear hx285_0; try clear hx285_1; try clear hx285_2; try clear hx285_3; try clear p272; try clear p273; try clear p274; try clear p284; try clear p285; try clear q272; try clear q273; try clear q274; try clear q284; try clear q285
          obtain ⟨kq, x214_66, rfl, HA, HJ66, HO_3, HO_5, HO_7, BK235, BK246, BK251, HR255_0, HR255_3, HB⟩ := hcut
          rcases kq with _ | kj66
          · exact absurd HA.out (by simp [winchlaw21_BusHolds.j3])
          have H := HA.out
          clear HA
          simp only [winchlaw21_BusHolds.j3] at H
          by_cases c95 : x214_66 = true
          · subst c95
            have H1 : (none) = some r := by rw [if_pos rfl] at H; exact H
            clear H
            have H := H1
            clear H1
            exact absurd H (by simp)
          replace c95 := Bool.eq_false_iff.mpr c95
          subst c95
          have H1 : (winchlaw21_BusHolds.l1 kj66 t238 t240 x7_2 l0_0 (l0_0.length : Int) x73_2 ((rd_T40 l0_0 x73_2).f1) (((rd_T40 l0_0 x73_2).f1).length : Int) 0 l0_0 l0_1 a0_2 l0_3 l0_4 t239) = some r := by rw [if_neg (show ¬ (false = true) by decide)] at H; exact H
          clear H
          have H := H1
          clear H1
          have H' := Aside0.mk H
          clear H
          have hnb96 := NB251_235.out
          have hnc96 := NB235_251.out
          have hnb97 := NB251_246.out
          have hnc97 := NB246_251.out
          obtain ⟨z98_0, z98_1, z98_2, z98_3, Z98_0, Z98_1, Z98_2, Z98_3⟩ := cf4 BK251
          go_wp2
          go_loopg [218] kj66 (fun kq v218 w' => ∃ (x7_5 : List Bool) (x218_5 : Int), v218 = .int .i64 x218_5 ∧ Aside0 (winchlaw21_BusHolds.l1 kq t238 t240 x7_5 l0_0 (l0_0.length : Int) x73_2 ((rd_T40 l0_0 x73_2).f1) (((rd_T40 l0_0 x73_2).f1).length : Int) x218_5 l0_0 l0_1 a0_2 l0_3 l0_4 t239 = some r) ∧ Aside0 (kq ≤ kj66) ∧ Aside0 (Kd.S k43 43 w' w.heap.size (fun _ => True) (.slice (some ad255) t238.length co40) t238) ∧ Aside0 (Kd.R k47 47 w' w.heap.size (fun _ => True) v244 t240) ∧ Aside0 (Kd.R Kd.bool 4 w' w.heap.size (fun _ => True) v248 x7_5) ∧ Aside0 (w'.heap[gb235]? = some (.cells (#[(.slice (some ad250) l0_0.length c0_0), (.slice A0_1 l0_1.length c0_1)] ++ ((ims a0_2) ++ #[(.slice A0_3 l0_3.length c0_3), (.slice A0_4 l0_4.length c0_4)])) 30 (0, 0))) ∧ Aside0 (w'.heap[gb246]? = some (.cells (ims t239) 26 (0, 0))) ∧ Aside0 (w'.heap[gb251]? = some (.cells #[.int .i64 ((rd_T40 l0_0 x73_2).f0), (.slice A250_1 ((rd_T40 l0_0 x73_2).f1).length c250_1), (.slice A250_2 ((rd_T40 l0_0 x73_2).f2).length c250_2), .int .i64 ((rd_T40 l0_0 x73_2).f3)] 40 (0, 0))) ∧ Aside0 (Below w.heap.size w w'))
          case atStart => exact ⟨(x7_2), (0), (by first | rfl | (simp; done) | (simp [*]; done) | (refine congrArg (Value.int _) ?_; simp only [xw_u32, xw_u8, i64_w, i32_w]; unfold wrap64; omega)), H', ⟨Nat.le_refl _⟩, ⟨by (with_reducible repeat (first | apply Kd.S_alloc | apply Kd.S_drewN | apply Kd.S_drew)); exact HO_3.out⟩, ⟨by refine xr ?_; exact HO_5.out⟩, ⟨by refine xr ?_; exact HO_7.out⟩, ⟨by refine xb ?_; exact BK235.out⟩, ⟨by refine xb ?_; exact BK246.out⟩, ⟨by refine xb ?_; exact BK251.out⟩, ⟨by exact xh HB.out⟩⟩
          case round =>
            clear H'
            try clear c2; try clear p2; try clear q2; try clear hx2; try clear c6; try clear q7; try clear c8; try clear c9; try clear c25; try clear p27; try clear q27; try clear hx27; try clear c28; try clear p28; try clear q28; try clear hx28; try clear c68; try clear c69; try clear q72; try clear c89; try clear c92; try clear c92b0; try clear c95; try clear c96; try clear c97; try clear z98_0 z98_1 z98_2 z98_3 Z98_0 Z98_1 Z98_2 Z98_3; try clear hx272_0; try clear hx272_1; try clear hx273_0; try clear hx273_1; try clear hx274_0; try clear hx274_1; try clear hx284_0; try clear hx284_1; try clear hx285_0; try clear hx285_1; try clear hx285_2; try clear hx285_3; try clear p272; try clear p273; try clear p274; try clear p284; try clear p285; try clear q272; try clear q273; try clear q274; try clear q284; try clear q285
            obtain ⟨x7_5, x218_5, rfl, HA, HK5, HO_3, HO_5, HO_7, BK235, BK246, BK251, HB⟩ := hrel
            rcases gk with _ | k5
            · exact absurd HA.out (by simp [winchlaw21_BusHolds.l1])
            have H := HA.out
            clear HA
            simp only [winchlaw21_BusHolds.l1] at H
            by_cases c99 : x218_5 < (((rd_T40 l0_0 x73_2).f1).length : Int)
            rotate_left
            · rw [if_neg c99] at H
              have c99b0 : decide (x218_5 < (((rd_T40 l0_0 x73_2).f1).length : Int)) = false := decide_eq_false c99
              clear c99
              have H' := Aside0.mk H
              clear H
              go_wp2
              go_roundg k5
              case measure => have := HJ4.out; have := HK2.out; have := HJ30.out; have := HJ66.out; have := HK5.out; omega
              case rel => exact ⟨(x7_5), (wrap64 (x73_2 + 1)), (by first | rfl | (simp; done) | (simp [*]; done) | (refine congrArg (Value.int _) ?_; simp only [xw_u32, xw_u8, i64_w, i32_w]; unfold wrap64; omega)), H', ⟨by have := HJ4.out; have := HK2.out; have := HJ30.out; have := HJ66.out; have := HK5.out; omega⟩, ⟨by (with_reducible repeat (first | apply Kd.S_alloc | apply Kd.S_drewN | apply Kd.S_drew)); exact HO_3.out⟩, ⟨by refine xr ?_; exact HO_5.out⟩, ⟨by refine xr ?_; exact HO_7.out⟩, ⟨by refine xb ?_; exact BK235.out⟩, ⟨by refine xb ?_; exact BK246.out⟩, ⟨by exact xh HB.out⟩⟩
            rw [if_pos c99] at H
            have c99b0 : decide (x218_5 < (((rd_T40 l0_0 x73_2).f1).length : Int)) = true := decide_eq_true c99
            clear c99
            by_cases c100 : 0 ≤ x218_5
            rotate_left
            · rw [if_neg c100] at H
              exact absurd H (by simp)
            rw [if_pos c100] at H
            have c100b0 : decide (0 ≤ x218_5) = true := decide_eq_true c100
            clear c100
            by_cases c101 : x218_5 < (((rd_T40 l0_0 x73_2).f1).length : Int)
            rotate_left
            · rw [if_neg c101] at H
              exact absurd H (by simp)
            rw [if_pos c101] at H
            have c101b0 : decide (x218_5 < (((rd_T40 l0_0 x73_2).f1).length : Int)) = true := decide_eq_true c101
            clear c101
            by_cases c102 : 0 ≤ (rd ((rd_T40 l0_0 x73_2).f1) x218_5)
            rotate_left
            · rw [if_neg c102] at H
              exact absurd H (by simp)
            rw [if_pos c102] at H
            have c102b0 : decide (0 ≤ (rd ((rd_T40 l0_0 x73_2).f1) x218_5)) = true := decide_eq_true c102
            clear c102
            by_cases c103 : (rd ((rd_T40 l0_0 x73_2).f1) x218_5) < (x7_5.length : Int)
            rotate_left
            · rw [if_neg c103] at H
              exact absurd H (by simp)
            rw [if_pos c103] at H
            have c103b0 : decide ((rd ((rd_T40 l0_0 x73_2).f1) x218_5) < (x7_5.length : Int)) = true := decide_eq_true c103
            clear c103
            obtain ⟨y287, hy287⟩ : ∃ y_ : List Bool, y_ = (x7_5.set ((rd ((rd_T40 l0_0 x73_2).f1) x218_5) : Int).toNat true) := ⟨_, rfl⟩
            replace H : (winchlaw21_BusHolds.l1 k5 t238 t240 y287 l0_0 (l0_0.length : Int) x73_2 ((rd_T40 l0_0 x73_2).f1) (((rd_T40 l0_0 x73_2).f1).length : Int) (wrap64 (x218_5 + 1)) l0_0 l0_1 a0_2 l0_3 l0_4 t239) = some r := by first | (rw [hy287]; with_reducible exact H) | (have H2_ := (Option.bind_some _ _).symm.trans H; rw [hy287]; with_reducible exact H2_) | (have H2_ := (Option.bind_some _ _).symm.trans H; with_reducible exact H2_) | with_reducible exact H | (rw [hy287]; exact H) | exact H
            have Ny287 := Aside0.mk hy287
            clear hy287
            have H' := Aside0.mk H
            clear H
            have p286 : 0 ≤ (x218_5 : Int) := of_decide_eq_true xa
            have q286 : x218_5 < (((rd_T40 l0_0 x73_2).f1).length : Int) := of_decide_eq_true xa
            obtain ⟨ad286, e286, hx286_0⟩ := Kd.at_int HR250_1.out x218_5 p286 q286
            cases e286
            replace hx286_0 := yu HB hx286_0
            replace p286 := eq_true p286
            replace q286 := eq_true q286
            have p104 : 0 ≤ ((rd ((rd_T40 l0_0 x73_2).f1) x218_5) : Int) := of_decide_eq_true xa
            have q104 : ((rd ((rd_T40 l0_0 x73_2).f1) x218_5) : Int) < ((x7_5.length : Int) : Int) := of_decide_eq_true xa
            obtain ⟨go104, co104, eo104, gb104, gl104, cl104, HG104⟩ := Kd.R_form HO_7.out (by omega)
            (first | cases eo104 | (injection eo104 with ea_ en_ ec_; (first | subst ea_ | (injection ea_ with ea_; subst ea_)); subst ec_; clear en_))
            have GB104 := Aside0.mk gb104
            have GG104 := Aside0.mk HG104
            clear gb104 gl104 HG104
            obtain ⟨hx104_0, hf104_0⟩ := Kd.R_celln false HO_7.out ((rd ((rd_T40 l0_0 x73_2).f1) x218_5) : Int) p104 q104
            replace p104 := eq_true p104
            replace q104 := eq_true q104
            have HP105 := Kd.R_putg HO_7.out ((rd ((rd_T40 l0_0 x73_2).f1) x218_5) : Int) true
            go_wp2_with (first | ((with_reducible refine gate_store (t := 4) (p := 224) rfl ?_); refine se 4 224 (wr.setCell ⟨go104, ((rd ((rd_T40 l0_0 x73_2).f1) x218_5) : Int).toNat, none⟩ (.bool true)) ?_; intro w106 hw; have hg : wr.grownBy w106 (some go104) := (by rw [hw]; exact HP105.2); have hp_ : Kd.R Kd.bool 4 w106 w.heap.size (fun _ => True) (.slice (some ⟨go104, 0, none⟩) x7_5.length co104) y287 := (by rw [hw, Ny287.out]; exact HP105.1); clear HP105; have n0_ := Aside0.mk (Kd.S_over' (v := (.slice (some ⟨go104, 0, none⟩) x7_5.length co104)) (by (with_reducible repeat (first | apply Kd.S_alloc | apply Kd.S_drewN | apply Kd.S_drew)); exact HO_3.out) (Kd.R_typed HO_7.out) (by decide) hg); have n1_ := Aside0.mk (Kd.R_over' (v := (.slice (some ⟨go104, 0, none⟩) x7_5.length co104)) (xr HO_5.out) (Kd.R_typed HO_7.out) (by decide) hg); have n3_ := Aside0.mk (blk_grown (g := gb235) (o := .cells (#[.slice (some ad250) l0_0.length c0_0, .slice A0_1 l0_1.length c0_1] ++ ((ims a0_2) ++ #[.slice A0_3 l0_3.length c0_3, .slice A0_4 l0_4.length c0_4])) 30 (0, 0)) (xb BK235.out) hg (Kd.R_ne HO_7.out BK235.out (by decide))); have n4_ := Aside0.mk (blk_grown (g := gb246) (o := .cells (ims t239) 26 (0, 0)) (xb BK246.out) hg (Kd.R_ne HO_7.out BK246.out (by decide))); have n5_ := Aside0.mk (blk_grown (g := gb251) (o := .cells #[.int .i64 ((rd_T40 l0_0 x73_2).f0), .slice (some ad286) ((rd_T40 l0_0 x73_2).f1).length c250_1, .slice A250_2 ((rd_T40 l0_0 x73_2).f2).length c250_2, .int .i64 ((rd_T40 l0_0 x73_2).f3)] 40 (0, 0)) (xb BK251.out) hg (Kd.R_ne HO_7.out BK251.out (by decide))); replace HO_7 := Aside0.mk (hp_); replace HB := Aside0.mk ((by rw [hw]; exact below_set (HB.out) GB104.out : Below w.heap.size w w106)); clear HO_3 HO_5 BK235 BK246 BK251; have HO_3 := n0_; have HO_5 := n1_; have BK235 := n3_; have BK246 := n4_; have BK251 := n5_; clear n0_ n1_ n3_ n4_ n5_; clear hg hw hp_))
            go_roundg k5
            case measure => have := HJ4.out; have := HK2.out; have := HJ30.out; have := HJ66.out; have := HK5.out; omega
            case rel => exact ⟨(y287), (wrap64 (x218_5 + 1)), (by first | rfl | (simp; done) | (simp [*]; done) | (refine congrArg (Value.int _) ?_; simp only [xw_u32, xw_u8, i64_w, i32_w]; unfold wrap64; omega)), H', ⟨by have := HJ4.out; have := HK2.out; have := HJ30.out; have := HJ66.out; have := HK5.out; omega⟩, ⟨by (with_reducible repeat (first | apply Kd.S_alloc | apply Kd.S_drewN | apply Kd.S_drew)); exact HO_3.out⟩, ⟨by refine xr ?_; exact HO_5.out⟩, ⟨by refine xr ?_; exact HO_7.out⟩, ⟨by refine xb ?_; exact BK235.out⟩, ⟨by refine xb ?_; exact BK246.out⟩, ⟨by refine xb ?_; exact BK251.out⟩, ⟨by exact xh HB.out⟩⟩
end Go.Proofs.Ytinicdlpinkmjaa.P
