/- The law FnApart. -/
import Derived.Test.YtjfgmnfkkehgfaaLvApart
import Derived.Test.YtjfgmnfkkehgfaaLvSortX
import Derived.Test.YtjfgmnfkkehgfaaLvFnHX
import Derived.Test.YtjfgmnfkkehgfaaLvFnOO
import Derived.Test.YtjfgmnfkkehgfaaLvCutX
import Derived.Test.YtjfgmnfkkehgfaaLvFnI
import Derived.Test.YtjfgmnfkkehgfaaLvFnDD
namespace Go.Proofs.LV
open Go Ieee
set_option linter.unusedVariables false
set_option linter.unusedSimpArgs false

def aN (ms : List Int) : Nat := (2 + atM ms 40 20).toNat
def aX (cs ms : List Int) : List Nat := s2L cs 0 0 (aN ms)
def aP (ms : List Int) : Nat := (1 + atM ms 41 (min (aN ms) 6 : Nat)).toNat
def aS (ms : List Int) : Nat := (atM ms 42 6).toNat
def aR (ms : List Int) : Nat := (1 + atM ms 43 4).toNat
def aT (cs ms : List Int) : List Nat := (taS (aX cs ms) (aP ms) (aS ms) (aR ms)).1
def aE (cs ms : List Int) : List Nat := sprM (taS (aX cs ms) (aP ms) (aS ms) (aR ms)).2 (aX cs ms).length
def aQ (cs ms : List Int) : List Nat := taR (aX cs ms) (aP ms) (aS ms) (aR ms)
def aL (cs ms : List Int) : List Nat := seasonM (aX cs ms) (aP ms)
def aSum (cs ms : List Int) (n : Nat) : Nat := accN (fun i s => if i < aP ms then fadd .f64 s (fconv .f32 .f64 ((aE cs ms).getD i 0)) else s) n 0
def aTold (cs ms : List Int) (n : Nat) : Nat := accN (fun i s => if i < aP ms then fadd .f64 s (fconv .f32 .f64 ((aL cs ms).getD i 0)) else s) n 0
def aAt (ms : List Int) : Nat := (1 + atM ms 44 ((aN ms : Int) - 1)).toNat
def aB (ms : List Int) : Nat := fdiv .f32 (fofi .f32 (IntKind.wrap .i64 (1 + atM ms 45 9))) 1073741824
def aF (ms : List Int) (n : Nat) : List Nat := tab n fun i => if aAt ms ≤ i then fadd .f32 1077936128 (aB ms) else 1077936128
def aH (ms : List Int) : Nat := stepBy (aF ms (aN ms))

-- FN laws_FnApart
/-- laws.FnApart: slots 202, results [.t 4]; calls [27:g_laws_r8Long, 29:g_laws_r8At, 33:g_spec_R8Series, 37:g_laws_r8At, 43:g_laws_r8At, 45:g_laws_r8At, 47:g_impl_TakeApart, 55:g_impl_SeasonOf, 111:g_laws_r8Gap, 150:g_laws_r8Gap, 155:g_laws_r8Gap, 161:g_laws_r8At, 164:g_laws_r8At, 186:g_impl_StepOf, 199:g_laws_r8Gap]; names [(code, 0), (more, 1), (code, 2), (more, 3), (n, 5), (list, 6), (period, 7), (trend, 8), (season, 9), (rest, 10), (one, 11), (alone, 12), (two, 13), (sum, 14), (told, 15), (i, 16), (at, 17), (by, 18), (flat, 19), (i, 20), (x, 21), (place, 22), (height, 23), (three, 24)] -/
def ps_laws_FnApart : List Nat := [0, 1, 4, 5, 6, 7, 8, 9, 10, 11, 12, 13, 14, 15, 16, 17, 18, 19, 20, 21, 22, 23, 24, 27, 87, 90, 130, 133, 157, 171, 176]
def lv_laws_FnApart_L0 : List Nat := [1, 5, 6, 7, 8, 9, 10, 12, 14, 15, 16]
def lv_laws_FnApart_L2 : List Nat := [5, 17, 18, 19, 20]
def b_laws_FnApart_L0 (g_laws_r8Long g_laws_r8At g_spec_R8Series g_impl_TakeApart g_impl_SeasonOf g_laws_r8Gap g_impl_StepOf : FuncId) : VCode :=
  (.seq
   (.seq
    (.region false [
     ⟨some 88, .mv, [.t 16], none⟩,
     ⟨some 89, .mv, [.t 5], none⟩,
     ⟨some 90, (.bin .lss), [.t 88, .t 89], none⟩])
    (.cond (.t 90)
     .skip
     (.exit 0)))
   (.seq
    (.block 1
     (.seq
      (.seq
       (.region true [
        ⟨some 93, .mv, [.t 8], none⟩,
        ⟨some 94, .mv, [.t 16], none⟩,
        ⟨some 95, .iaddr, [.t 93, .t 94], none⟩,
        ⟨some 96, .load, [.t 95], none⟩,
        ⟨some 97, .mv, [.t 9], none⟩,
        ⟨some 98, .mv, [.t 16], none⟩,
        ⟨some 99, .iaddr, [.t 97, .t 98], none⟩,
        ⟨some 100, .load, [.t 99], none⟩,
        ⟨some 101, (.bin .add), [.t 96, .t 100], none⟩,
        ⟨some 102, .mv, [.t 10], none⟩,
        ⟨some 103, .mv, [.t 16], none⟩,
        ⟨some 104, .iaddr, [.t 102, .t 103], none⟩,
        ⟨some 105, .load, [.t 104], none⟩,
        ⟨some 106, (.bin .add), [.t 101, .t 105], none⟩,
        ⟨some 107, .mv, [.t 6], none⟩,
        ⟨some 108, .mv, [.t 16], none⟩,
        ⟨some 109, .iaddr, [.t 107, .t 108], none⟩,
        ⟨some 110, .load, [.t 109], none⟩,
        ⟨some 111, (.call g_laws_r8Gap), [.t 106, .t 110], none⟩,
        ⟨some 112, (.bin .gtr), [.t 111, .k (.f .f64 4562254508917369340)], none⟩,
        ⟨some 113, .mv, [.t 112], none⟩,
        ⟨some 114, .mv, [.t 16], some (113, false)⟩,
        ⟨some 115, .mv, [.t 7], some (113, false)⟩,
        ⟨some 116, (.bin .geq), [.t 114, .t 115], some (113, false)⟩,
        ⟨some 117, .mv, [.t 116], some (113, false)⟩,
        ⟨some 118, .mv, [.t 9], some (117, true)⟩,
        ⟨some 119, .mv, [.t 16], some (117, true)⟩,
        ⟨some 120, .iaddr, [.t 118, .t 119], some (117, true)⟩,
        ⟨some 121, .load, [.t 120], some (117, true)⟩,
        ⟨some 122, .mv, [.t 9], some (117, true)⟩,
        ⟨some 123, .mv, [.t 16], some (117, true)⟩,
        ⟨some 124, .mv, [.t 7], some (117, true)⟩,
        ⟨some 125, (.bin .sub), [.t 123, .t 124], some (117, true)⟩,
        ⟨some 126, .iaddr, [.t 122, .t 125], some (117, true)⟩,
        ⟨some 127, .load, [.t 126], some (117, true)⟩,
        ⟨some 128, (.bin .neq), [.t 121, .t 127], some (117, true)⟩,
        ⟨some 129, .pick, [.t 117, .t 128, .k (.b false)], some (113, false)⟩,
        ⟨some 130, .pick, [.t 113, .k (.b true), .t 129], none⟩])
       (.cond (.t 130)
        (.seq
         (.region false [
          ⟨some 4, .mv, [.k (.b false)], none⟩])
         .ret)
        .skip))
      (.seq
       (.region false [
        ⟨some 131, .mv, [.t 16], none⟩,
        ⟨some 132, .mv, [.t 7], none⟩,
        ⟨some 133, (.bin .lss), [.t 131, .t 132], none⟩])
       (.cond (.t 133)
        (.seq
         (.region false [
          ⟨some 134, .mv, [.t 14], none⟩,
          ⟨some 135, .mv, [.t 9], none⟩,
          ⟨some 136, .mv, [.t 16], none⟩,
          ⟨some 137, .iaddr, [.t 135, .t 136], none⟩,
          ⟨some 138, .load, [.t 137], none⟩,
          ⟨some 139, (.convF .f64), [.t 138], none⟩,
          ⟨some 140, (.bin .add), [.t 134, .t 139], none⟩,
          ⟨some 14, .mv, [.t 140], none⟩])
         (.region false [
          ⟨some 141, .mv, [.t 15], none⟩,
          ⟨some 142, .mv, [.t 12], none⟩,
          ⟨some 143, .mv, [.t 16], none⟩,
          ⟨some 144, .iaddr, [.t 142, .t 143], none⟩,
          ⟨some 145, .load, [.t 144], none⟩,
          ⟨some 146, (.convF .f64), [.t 145], none⟩,
          ⟨some 147, (.bin .add), [.t 141, .t 146], none⟩,
          ⟨some 15, .mv, [.t 147], none⟩]))
        .skip))))
    (.region false [
     ⟨some 91, .mv, [.t 16], none⟩,
     ⟨some 92, (.bin .add), [.t 91, .k (.i .i64 1)], none⟩,
     ⟨some 16, .mv, [.t 92], none⟩])))

def b_laws_FnApart_L2 (g_laws_r8Long g_laws_r8At g_spec_R8Series g_impl_TakeApart g_impl_SeasonOf g_laws_r8Gap g_impl_StepOf : FuncId) : VCode :=
  (.seq
   (.seq
    (.region false [
     ⟨some 169, .mv, [.t 20], none⟩,
     ⟨some 170, .mv, [.t 5], none⟩,
     ⟨some 171, (.bin .lss), [.t 169, .t 170], none⟩])
    (.cond (.t 171)
     .skip
     (.exit 2)))
   (.seq
    (.block 3
     (.seq
      (.region false [
       ⟨some 21, .mv, [.k (.f .f32 1077936128)], none⟩])
      (.seq
       (.seq
        (.region false [
         ⟨some 174, .mv, [.t 20], none⟩,
         ⟨some 175, .mv, [.t 17], none⟩,
         ⟨some 176, (.bin .geq), [.t 174, .t 175], none⟩])
        (.cond (.t 176)
         (.region false [
          ⟨some 177, .mv, [.t 21], none⟩,
          ⟨some 178, .mv, [.t 18], none⟩,
          ⟨some 179, (.bin .add), [.t 177, .t 178], none⟩,
          ⟨some 21, .mv, [.t 179], none⟩])
         .skip))
       (.region false [
        ⟨some 180, .mv, [.t 19], none⟩,
        ⟨some 181, .mv, [.t 21], none⟩,
        ⟨some 182, (.lit true (.f .f32 [])), [.t 181], none⟩,
        ⟨some 183, .app, [.t 180, .t 182], none⟩,
        ⟨some 19, .mv, [.t 183], none⟩]))))
    (.region false [
     ⟨some 172, .mv, [.t 20], none⟩,
     ⟨some 173, (.bin .add), [.t 172, .k (.i .i64 1)], none⟩,
     ⟨some 20, .mv, [.t 173], none⟩])))

def b_laws_FnApart (g_laws_r8Long g_laws_r8At g_spec_R8Series g_impl_TakeApart g_impl_SeasonOf g_laws_r8Gap g_impl_StepOf : FuncId) : VCode :=
  (.seq
   (.region false [
    ⟨some 4, .mv, [.k (.b false)], none⟩])
   (.seq
    (.seq
     (.region false [
      ⟨some 25, .mv, [.t 0], none⟩,
      ⟨some 26, .mv, [.t 1], none⟩,
      ⟨some 27, (.call g_laws_r8Long), [.t 25, .t 26], none⟩])
     (.cond (.t 27)
      (.seq
       (.region false [
        ⟨some 4, .mv, [.k (.b true)], none⟩])
       .ret)
      .skip))
    (.seq
     (.region false [
      ⟨some 28, .mv, [.t 1], none⟩,
      ⟨some 29, (.call g_laws_r8At), [.t 28, .k (.i .i64 40), .k (.i .i64 20)], none⟩,
      ⟨some 30, (.bin .add), [.k (.i .i64 2), .t 29], none⟩,
      ⟨some 5, .mv, [.t 30], none⟩])
     (.seq
      (.region false [
       ⟨some 31, .mv, [.t 0], none⟩,
       ⟨some 32, .mv, [.t 5], none⟩,
       ⟨some 33, (.call g_spec_R8Series), [.t 31, .t 32], none⟩,
       ⟨some 6, .mv, [.t 33], none⟩])
      (.seq
       (.region false [
        ⟨some 34, .mv, [.t 1], none⟩,
        ⟨some 35, .mv, [.t 5], none⟩,
        ⟨some 36, .min, [.t 35, .k (.i .i64 6)], none⟩,
        ⟨some 37, (.call g_laws_r8At), [.t 34, .k (.i .i64 41), .t 36], none⟩,
        ⟨some 38, (.bin .add), [.k (.i .i64 1), .t 37], none⟩,
        ⟨some 7, .mv, [.t 38], none⟩])
       (.seq
        (.region false [
         ⟨some 40, .mv, [.t 6], none⟩,
         ⟨some 41, .mv, [.t 7], none⟩,
         ⟨some 42, .mv, [.t 1], none⟩,
         ⟨some 43, (.call g_laws_r8At), [.t 42, .k (.i .i64 42), .k (.i .i64 6)], none⟩,
         ⟨some 44, .mv, [.t 1], none⟩,
         ⟨some 45, (.call g_laws_r8At), [.t 44, .k (.i .i64 43), .k (.i .i64 4)], none⟩,
         ⟨some 46, (.bin .add), [.k (.i .i64 1), .t 45], none⟩,
         ⟨some 47, (.call g_impl_TakeApart), [.t 40, .t 41, .t 43, .t 46], none⟩,
         ⟨some 39, .mv, [.t 47], none⟩,
         ⟨some 48, (.extract 0), [.t 39], none⟩,
         ⟨some 49, (.extract 1), [.t 39], none⟩,
         ⟨some 50, (.extract 2), [.t 39], none⟩,
         ⟨some 51, (.extract 3), [.t 39], none⟩,
         ⟨some 8, .mv, [.t 48], none⟩,
         ⟨some 9, .mv, [.t 49], none⟩,
         ⟨some 10, .mv, [.t 50], none⟩,
         ⟨some 11, .mv, [.t 51], none⟩])
        (.seq
         (.region false [
          ⟨some 53, .mv, [.t 6], none⟩,
          ⟨some 54, .mv, [.t 7], none⟩,
          ⟨some 55, (.call g_impl_SeasonOf), [.t 53, .t 54], none⟩,
          ⟨some 52, .mv, [.t 55], none⟩,
          ⟨some 56, (.extract 0), [.t 52], none⟩,
          ⟨some 57, (.extract 1), [.t 52], none⟩,
          ⟨some 12, .mv, [.t 56], none⟩,
          ⟨some 13, .mv, [.t 57], none⟩])
         (.seq
          (.seq
           (.region false [
            ⟨some 58, .mv, [.t 11], none⟩,
            ⟨some 59, .not, [.t 58], none⟩,
            ⟨some 60, .mv, [.t 59], none⟩,
            ⟨some 61, .mv, [.t 13], some (60, false)⟩,
            ⟨some 62, .not, [.t 61], some (60, false)⟩,
            ⟨some 63, .pick, [.t 60, .k (.b true), .t 62], none⟩,
            ⟨some 64, .mv, [.t 63], none⟩,
            ⟨some 65, .mv, [.t 8], some (64, false)⟩,
            ⟨some 66, .len, [.t 65], some (64, false)⟩,
            ⟨some 67, .mv, [.t 5], some (64, false)⟩,
            ⟨some 68, (.bin .neq), [.t 66, .t 67], some (64, false)⟩,
            ⟨some 69, .pick, [.t 64, .k (.b true), .t 68], none⟩,
            ⟨some 70, .mv, [.t 69], none⟩,
            ⟨some 71, .mv, [.t 9], some (70, false)⟩,
            ⟨some 72, .len, [.t 71], some (70, false)⟩,
            ⟨some 73, .mv, [.t 5], some (70, false)⟩,
            ⟨some 74, (.bin .neq), [.t 72, .t 73], some (70, false)⟩,
            ⟨some 75, .pick, [.t 70, .k (.b true), .t 74], none⟩,
            ⟨some 76, .mv, [.t 75], none⟩,
            ⟨some 77, .mv, [.t 10], some (76, false)⟩,
            ⟨some 78, .len, [.t 77], some (76, false)⟩,
            ⟨some 79, .mv, [.t 5], some (76, false)⟩,
            ⟨some 80, (.bin .neq), [.t 78, .t 79], some (76, false)⟩,
            ⟨some 81, .pick, [.t 76, .k (.b true), .t 80], none⟩,
            ⟨some 82, .mv, [.t 81], none⟩,
            ⟨some 83, .mv, [.t 12], some (82, false)⟩,
            ⟨some 84, .len, [.t 83], some (82, false)⟩,
            ⟨some 85, .mv, [.t 7], some (82, false)⟩,
            ⟨some 86, (.bin .neq), [.t 84, .t 85], some (82, false)⟩,
            ⟨some 87, .pick, [.t 82, .k (.b true), .t 86], none⟩])
           (.cond (.t 87)
            (.seq
             (.region false [
              ⟨some 4, .mv, [.k (.b false)], none⟩])
             .ret)
            .skip))
          (.seq
           (.region false [
            ⟨some 14, .mv, [.k (.f .f64 0)], none⟩])
           (.seq
            (.region false [
             ⟨some 15, .mv, [.k (.f .f64 0)], none⟩])
            (.seq
             (.seq
              (.region false [
               ⟨some 16, .mv, [.k (.i .i64 0)], none⟩])
              (.block 0 (.loop (b_laws_FnApart_L0 g_laws_r8Long g_laws_r8At g_spec_R8Series g_impl_TakeApart g_impl_SeasonOf g_laws_r8Gap g_impl_StepOf))))
             (.seq
              (.seq
               (.region false [
                ⟨some 148, .mv, [.t 14], none⟩,
                ⟨some 149, (.convF .f32), [.t 148], none⟩,
                ⟨some 150, (.call g_laws_r8Gap), [.t 149, .k (.f .f32 0)], none⟩,
                ⟨some 151, (.bin .gtr), [.t 150, .k (.f .f64 4562254508917369340)], none⟩,
                ⟨some 152, .mv, [.t 151], none⟩,
                ⟨some 153, .mv, [.t 15], some (152, false)⟩,
                ⟨some 154, (.convF .f32), [.t 153], some (152, false)⟩,
                ⟨some 155, (.call g_laws_r8Gap), [.t 154, .k (.f .f32 0)], some (152, false)⟩,
                ⟨some 156, (.bin .gtr), [.t 155, .k (.f .f64 4562254508917369340)], some (152, false)⟩,
                ⟨some 157, .pick, [.t 152, .k (.b true), .t 156], none⟩])
               (.cond (.t 157)
                (.seq
                 (.region false [
                  ⟨some 4, .mv, [.k (.b false)], none⟩])
                 .ret)
                .skip))
              (.seq
               (.region false [
                ⟨some 158, .mv, [.t 1], none⟩,
                ⟨some 159, .mv, [.t 5], none⟩,
                ⟨some 160, (.bin .sub), [.t 159, .k (.i .i64 1)], none⟩,
                ⟨some 161, (.call g_laws_r8At), [.t 158, .k (.i .i64 44), .t 160], none⟩,
                ⟨some 162, (.bin .add), [.k (.i .i64 1), .t 161], none⟩,
                ⟨some 17, .mv, [.t 162], none⟩])
               (.seq
                (.region false [
                 ⟨some 163, .mv, [.t 1], none⟩,
                 ⟨some 164, (.call g_laws_r8At), [.t 163, .k (.i .i64 45), .k (.i .i64 9)], none⟩,
                 ⟨some 165, (.bin .add), [.k (.i .i64 1), .t 164], none⟩,
                 ⟨some 166, (.convF .f32), [.t 165], none⟩,
                 ⟨some 167, (.bin .quo), [.t 166, .k (.f .f32 1073741824)], none⟩,
                 ⟨some 18, .mv, [.t 167], none⟩])
                (.seq
                 (.region false [
                  ⟨some 168, (.lit true (.f .f32 [])), [], none⟩,
                  ⟨some 19, .mv, [.t 168], none⟩])
                 (.seq
                  (.seq
                   (.region false [
                    ⟨some 20, .mv, [.k (.i .i64 0)], none⟩])
                   (.block 2 (.loop (b_laws_FnApart_L2 g_laws_r8Long g_laws_r8At g_spec_R8Series g_impl_TakeApart g_impl_SeasonOf g_laws_r8Gap g_impl_StepOf))))
                  (.seq
                   (.region false [
                    ⟨some 185, .mv, [.t 19], none⟩,
                    ⟨some 186, (.call g_impl_StepOf), [.t 185], none⟩,
                    ⟨some 184, .mv, [.t 186], none⟩,
                    ⟨some 187, (.extract 0), [.t 184], none⟩,
                    ⟨some 188, (.extract 1), [.t 184], none⟩,
                    ⟨some 189, (.extract 2), [.t 184], none⟩,
                    ⟨some 22, .mv, [.t 187], none⟩,
                    ⟨some 23, .mv, [.t 188], none⟩,
                    ⟨some 24, .mv, [.t 189], none⟩])
                   (.seq
                    (.region false [
                     ⟨some 190, .mv, [.t 24], none⟩,
                     ⟨some 191, .mv, [.t 190], none⟩,
                     ⟨some 192, .mv, [.t 22], some (191, true)⟩,
                     ⟨some 193, .mv, [.t 17], some (191, true)⟩,
                     ⟨some 194, (.bin .eql), [.t 192, .t 193], some (191, true)⟩,
                     ⟨some 195, .pick, [.t 191, .t 194, .k (.b false)], none⟩,
                     ⟨some 196, .mv, [.t 195], none⟩,
                     ⟨some 197, .mv, [.t 23], some (196, true)⟩,
                     ⟨some 198, .mv, [.t 18], some (196, true)⟩,
                     ⟨some 199, (.call g_laws_r8Gap), [.t 197, .t 198], some (196, true)⟩,
                     ⟨some 200, (.bin .lss), [.t 199, .k (.f .f64 4562254508917369340)], some (196, true)⟩,
                     ⟨some 201, .pick, [.t 196, .t 200, .k (.b false)], none⟩,
                     ⟨some 4, .mv, [.t 201], none⟩])
                    .ret))))))))))))))))))

abbrev Is_laws_FnApart (P : Program) (g_f : FuncId) (g_laws_r8Long g_laws_r8At g_spec_R8Series g_impl_TakeApart g_impl_SeasonOf g_laws_r8Gap g_impl_StepOf : FuncId) : Prop := FnIs P g_f 202 [.t 4] (b_laws_FnApart g_laws_r8Long g_laws_r8At g_spec_R8Series g_impl_TakeApart g_impl_SeasonOf g_laws_r8Gap g_impl_StepOf)

abbrev C_laws_FnApart (P : Program) (g_f : FuncId) : Prop := ∀ (cs : List Int) (ms : List Int), VCall P g_f [PU [0] cs, PU [1] ms] (.b true)
def oc_laws_FnApart (cs : List Int) (ms : List Int) (d : Nat) (as : List AV) : T AV := match d with | 27 => oc1_laws_r8Long as | 29 => oc1_laws_r8At as | 33 => .leaf (OS 0 .f32 (aX cs ms)) | 37 => oc1_laws_r8At as | 43 => oc1_laws_r8At as | 45 => oc1_laws_r8At as | 47 => .leaf (.tup [OS 0 .f32 (aT cs ms), OS 1 .f32 (aE cs ms), OS 2 .f32 (aQ cs ms), .b true]) | 55 => .leaf (.tup [OS 0 .f32 (aL cs ms), .b true]) | 111 => oc1_laws_r8Gap as | 150 => oc1_laws_r8Gap as | 155 => oc1_laws_r8Gap as | 161 => oc1_laws_r8At as | 164 => oc1_laws_r8At as | 186 => .leaf (.tup [.i .i64 (aAt ms), .f .f32 (aH ms), .b true]) | 199 => oc1_laws_r8Gap as | _ => .fail
def c_laws_FnApart_1 (cs : List Int) (ms : List Int) : Env := [AV.sl (Tag.par [0]) 0 (Cont.i IntKind.u8 cs), AV.sl (Tag.par [1]) 0 (Cont.i IntKind.u8 ms), .any, .any, AV.b false, AV.i IntKind.i64 (IntKind.wrap IntKind.i64 (2 + atM ms 40 20)), AV.sl (Tag.own 264) 0 (Cont.f FloatKind.f32 (aX cs ms))] ++ anys 195
def ks_laws_FnApart_1 : List Nat := [0, 1, 4, 5, 6]
def c_laws_FnApart_2 (cs : List Int) (ms : List Int) : Env := [AV.sl (Tag.par [0]) 0 (Cont.i IntKind.u8 cs), AV.sl (Tag.par [1]) 0 (Cont.i IntKind.u8 ms), .any, .any, AV.b false, AV.i IntKind.i64 (IntKind.wrap IntKind.i64 (2 + atM ms 40 20)), AV.sl (Tag.own 264) 0 (Cont.f FloatKind.f32 (aX cs ms)), AV.i IntKind.i64 (IntKind.wrap IntKind.i64 (1 + atM ms 41 (bif decide (6 < IntKind.wrap IntKind.i64 (2 + atM ms 40 20)) then 6 else IntKind.wrap IntKind.i64 (2 + atM ms 40 20)))), AV.sl (Tag.own 376) 0 (Cont.f FloatKind.f32 (aT cs ms)), AV.sl (Tag.own 377) 0 (Cont.f FloatKind.f32 (aE cs ms)), AV.sl (Tag.own 378) 0 (Cont.f FloatKind.f32 (aQ cs ms)), AV.b true, AV.sl (Tag.own 440) 0 (Cont.f FloatKind.f32 (aL cs ms)), AV.b true] ++ anys 188
def ks_laws_FnApart_2 : List Nat := [0, 1, 4, 5, 6, 7, 8, 9, 10, 11, 12, 13]
def c_laws_FnApart_3 (cs : List Int) (ms : List Int) : Env := [AV.sl (Tag.par [0]) 0 (Cont.i IntKind.u8 cs), AV.sl (Tag.par [1]) 0 (Cont.i IntKind.u8 ms), .any, .any, AV.b false, AV.i IntKind.i64 (IntKind.wrap IntKind.i64 (2 + atM ms 40 20)), AV.sl (Tag.own 264) 0 (Cont.f FloatKind.f32 (aX cs ms)), AV.i IntKind.i64 (IntKind.wrap IntKind.i64 (1 + atM ms 41 (bif decide (6 < IntKind.wrap IntKind.i64 (2 + atM ms 40 20)) then 6 else IntKind.wrap IntKind.i64 (2 + atM ms 40 20)))), AV.sl (Tag.own 376) 0 (Cont.f FloatKind.f32 (aT cs ms)), AV.sl (Tag.own 377) 0 (Cont.f FloatKind.f32 (aE cs ms)), AV.sl (Tag.own 378) 0 (Cont.f FloatKind.f32 (aQ cs ms)), AV.b true, AV.sl (Tag.own 440) 0 (Cont.f FloatKind.f32 (aL cs ms)), AV.b true] ++ anys 188
def ks_laws_FnApart_3 : List Nat := [0, 1, 4, 5, 6, 7, 8, 9, 10, 11, 12, 13]
def h_laws_FnApart_L0 (cs : List Int) (ms : List Int) (sum : Nat) (told : Nat) (i : Int) : Env := [.any, AV.sl (Tag.par [1]) 0 (Cont.i IntKind.u8 ms), .any, .any, .any, AV.i IntKind.i64 (IntKind.wrap IntKind.i64 (2 + atM ms 40 20)), AV.sl (Tag.own 264) 0 (Cont.f FloatKind.f32 (aX cs ms)), AV.i IntKind.i64 (IntKind.wrap IntKind.i64 (1 + atM ms 41 (bif decide (6 < IntKind.wrap IntKind.i64 (2 + atM ms 40 20)) then 6 else IntKind.wrap IntKind.i64 (2 + atM ms 40 20)))), AV.sl (Tag.own 376) 0 (Cont.f FloatKind.f32 (aT cs ms)), AV.sl (Tag.own 377) 0 (Cont.f FloatKind.f32 (aE cs ms)), AV.sl (Tag.own 378) 0 (Cont.f FloatKind.f32 (aQ cs ms)), .any, AV.sl (Tag.own 440) 0 (Cont.f FloatKind.f32 (aL cs ms)), .any, .f FloatKind.f64 sum, .f FloatKind.f64 told, .i IntKind.i64 i] ++ anys 185
def c_laws_FnApart_4 (cs : List Int) (ms : List Int) : Env := [.any, AV.sl (Tag.par [1]) 0 (Cont.i IntKind.u8 ms), .any, .any, .any, AV.i IntKind.i64 (IntKind.wrap IntKind.i64 (2 + atM ms 40 20)), AV.sl (Tag.own 264) 0 (Cont.f FloatKind.f32 (aX cs ms)), AV.i IntKind.i64 (IntKind.wrap IntKind.i64 (1 + atM ms 41 (bif decide (6 < IntKind.wrap IntKind.i64 (2 + atM ms 40 20)) then 6 else IntKind.wrap IntKind.i64 (2 + atM ms 40 20)))), AV.sl (Tag.own 376) 0 (Cont.f FloatKind.f32 (aT cs ms)), AV.sl (Tag.own 377) 0 (Cont.f FloatKind.f32 (aE cs ms)), AV.sl (Tag.own 378) 0 (Cont.f FloatKind.f32 (aQ cs ms)), .any, AV.sl (Tag.own 440) 0 (Cont.f FloatKind.f32 (aL cs ms)), .any, AV.f FloatKind.f64 (aSum cs ms (aN ms)), AV.f FloatKind.f64 (aTold cs ms (aN ms)), AV.i IntKind.i64 (↑(aN ms) : Int)] ++ anys 185
def ks_laws_FnApart_4 : List Nat := [1, 5, 6, 7, 8, 9, 10, 12, 14, 15, 16]
def c_laws_FnApart_5 (cs : List Int) (ms : List Int) : Env := [.any, AV.sl (Tag.par [1]) 0 (Cont.i IntKind.u8 ms), .any, .any, .any, AV.i IntKind.i64 (IntKind.wrap IntKind.i64 (2 + atM ms 40 20)), AV.sl (Tag.own 264) 0 (Cont.f FloatKind.f32 (aX cs ms)), AV.i IntKind.i64 (IntKind.wrap IntKind.i64 (1 + atM ms 41 (bif decide (6 < IntKind.wrap IntKind.i64 (2 + atM ms 40 20)) then 6 else IntKind.wrap IntKind.i64 (2 + atM ms 40 20)))), AV.sl (Tag.own 376) 0 (Cont.f FloatKind.f32 (aT cs ms)), AV.sl (Tag.own 377) 0 (Cont.f FloatKind.f32 (aE cs ms)), AV.sl (Tag.own 378) 0 (Cont.f FloatKind.f32 (aQ cs ms)), .any, AV.sl (Tag.own 440) 0 (Cont.f FloatKind.f32 (aL cs ms)), .any, AV.f FloatKind.f64 (aSum cs ms (aN ms)), AV.f FloatKind.f64 (aTold cs ms (aN ms)), AV.i IntKind.i64 (↑(aN ms) : Int)] ++ anys 185
def ks_laws_FnApart_5 : List Nat := [1, 5, 6, 7, 8, 9, 10, 12, 14, 15, 16]
def h_laws_FnApart_L2 (cs : List Int) (ms : List Int) (flat : List Nat) (i : Int) : Env := anys 5 ++ [AV.i IntKind.i64 (IntKind.wrap IntKind.i64 (2 + atM ms 40 20))] ++ anys 11 ++ [AV.i IntKind.i64 (IntKind.wrap IntKind.i64 (1 + atM ms 44 (IntKind.wrap IntKind.i64 (IntKind.wrap IntKind.i64 (2 + atM ms 40 20) - 1)))), AV.f FloatKind.f32 (fdiv FloatKind.f32 (fofi FloatKind.f32 (IntKind.wrap IntKind.i64 (1 + atM ms 45 9))) 1073741824), .sl (Tag.own 1344) 0 (.f FloatKind.f32 flat), .i IntKind.i64 i] ++ anys 181
def c_laws_FnApart_6 (cs : List Int) (ms : List Int) : Env := anys 5 ++ [AV.i IntKind.i64 (IntKind.wrap IntKind.i64 (2 + atM ms 40 20))] ++ anys 11 ++ [AV.i IntKind.i64 (IntKind.wrap IntKind.i64 (1 + atM ms 44 (IntKind.wrap IntKind.i64 (IntKind.wrap IntKind.i64 (2 + atM ms 40 20) - 1)))), AV.f FloatKind.f32 (fdiv FloatKind.f32 (fofi FloatKind.f32 (IntKind.wrap IntKind.i64 (1 + atM ms 45 9))) 1073741824), AV.sl (Tag.own 1344) 0 (Cont.f FloatKind.f32 (aF ms (aN ms))), AV.i IntKind.i64 (↑(aN ms) : Int)] ++ anys 181
def ks_laws_FnApart_6 : List Nat := [5, 17, 18, 19, 20]

theorem q_laws_FnApart_L0 {VC : FuncId → List AV → AV → Prop} {g_laws_r8Long g_laws_r8At g_spec_R8Series g_impl_TakeApart g_impl_SeasonOf g_laws_r8Gap g_impl_StepOf : FuncId} (cs : List Int) (ms : List Int) (sum : Nat) (told : Nat) (i : Int) {e_ : Ex} {σ_ : Env} (ht : T.ok (fun x_ => x_ = (e_, σ_)) (
      T.ite (decide (i < IntKind.wrap IntKind.i64 (2 + atM ms 40 20)))
        (T.ob (0 ≤ i ∧ i < (↑(List.length (aT cs ms)) : Int))
          (T.ob (0 ≤ i ∧ i < (↑(List.length (aE cs ms)) : Int))
            (T.ob (0 ≤ i ∧ i < (↑(List.length (aQ cs ms)) : Int))
              (T.ob (0 ≤ i ∧ i < (↑(List.length (aX cs ms)) : Int))
                (T.ob
                  (VC g_laws_r8Gap
                    [AV.f FloatKind.f32 (fadd FloatKind.f32 (fadd FloatKind.f32 (List.getD (aT cs ms) (Int.toNat i) 0) (List.getD (aE cs ms) (Int.toNat i) 0)) (List.getD (aQ cs ms) (Int.toNat i) 0)),
                      AV.f FloatKind.f32 (List.getD (aX cs ms) (Int.toNat i) 0)]
                    (AV.f FloatKind.f64
                      (r8G (fadd FloatKind.f32 (fadd FloatKind.f32 (List.getD (aT cs ms) (Int.toNat i) 0) (List.getD (aE cs ms) (Int.toNat i) 0)) (List.getD (aQ cs ms) (Int.toNat i) 0))
                        (List.getD (aX cs ms) (Int.toNat i) 0))))
                  (T.ite
                    (fgt FloatKind.f64
                      (r8G (fadd FloatKind.f32 (fadd FloatKind.f32 (List.getD (aT cs ms) (Int.toNat i) 0) (List.getD (aE cs ms) (Int.toNat i) 0)) (List.getD (aQ cs ms) (Int.toNat i) 0)) (List.getD (aX cs ms) (Int.toNat i) 0))
                      4562254508917369340)
                    (T.leaf (Ex.ret, anys 4 ++ AV.b false :: anys 197))
                    (T.ite (decide (i ≥ IntKind.wrap IntKind.i64 (1 + atM ms 41 (bif decide (6 < IntKind.wrap IntKind.i64 (2 + atM ms 40 20)) then 6 else IntKind.wrap IntKind.i64 (2 + atM ms 40 20)))))
                      (T.ob (0 ≤ i ∧ i < (↑(List.length (aE cs ms)) : Int))
                        (T.ob
                          (0 ≤ IntKind.wrap IntKind.i64 (i - IntKind.wrap IntKind.i64 (1 + atM ms 41 (bif decide (6 < IntKind.wrap IntKind.i64 (2 + atM ms 40 20)) then 6 else IntKind.wrap IntKind.i64 (2 + atM ms 40 20)))) ∧
                            IntKind.wrap IntKind.i64 (i - IntKind.wrap IntKind.i64 (1 + atM ms 41 (bif decide (6 < IntKind.wrap IntKind.i64 (2 + atM ms 40 20)) then 6 else IntKind.wrap IntKind.i64 (2 + atM ms 40 20)))) <
                              (↑(List.length (aE cs ms)) : Int))
                          (T.ite
                            (fne FloatKind.f32 (List.getD (aE cs ms) (Int.toNat i) 0)
                              (List.getD (aE cs ms)
                                (Int.toNat
                                  (IntKind.wrap IntKind.i64
                                    (i - IntKind.wrap IntKind.i64 (1 + atM ms 41 (bif decide (6 < IntKind.wrap IntKind.i64 (2 + atM ms 40 20)) then 6 else IntKind.wrap IntKind.i64 (2 + atM ms 40 20))))))
                                0))
                            (T.leaf (Ex.ret, anys 4 ++ AV.b false :: anys 197))
                            (T.ite (decide (i < IntKind.wrap IntKind.i64 (1 + atM ms 41 (bif decide (6 < IntKind.wrap IntKind.i64 (2 + atM ms 40 20)) then 6 else IntKind.wrap IntKind.i64 (2 + atM ms 40 20)))))
                              (T.ob (0 ≤ i ∧ i < (↑(List.length (aE cs ms)) : Int))
                                (T.ob (fconvOk FloatKind.f32 FloatKind.f64 (List.getD (aE cs ms) (Int.toNat i) 0) = true)
                                  (T.ob (0 ≤ i ∧ i < (↑(List.length (aL cs ms)) : Int))
                                    (T.ob (fconvOk FloatKind.f32 FloatKind.f64 (List.getD (aL cs ms) (Int.toNat i) 0) = true)
                                      (T.leaf
                                        (Ex.normal,
                                          h_laws_FnApart_L0 cs ms (fadd FloatKind.f64 sum (fconv FloatKind.f32 FloatKind.f64 (List.getD (aE cs ms) (Int.toNat i) 0)))
                                            (fadd FloatKind.f64 told (fconv FloatKind.f32 FloatKind.f64 (List.getD (aL cs ms) (Int.toNat i) 0))) (IntKind.wrap IntKind.i64 (i + 1))))))))
                              (T.leaf (Ex.normal, h_laws_FnApart_L0 cs ms sum told (IntKind.wrap IntKind.i64 (i + 1))))))))
                      (T.ite (decide (i < IntKind.wrap IntKind.i64 (1 + atM ms 41 (bif decide (6 < IntKind.wrap IntKind.i64 (2 + atM ms 40 20)) then 6 else IntKind.wrap IntKind.i64 (2 + atM ms 40 20)))))
                        (T.ob (0 ≤ i ∧ i < (↑(List.length (aE cs ms)) : Int))
                          (T.ob (fconvOk FloatKind.f32 FloatKind.f64 (List.getD (aE cs ms) (Int.toNat i) 0) = true)
                            (T.ob (0 ≤ i ∧ i < (↑(List.length (aL cs ms)) : Int))
                              (T.ob (fconvOk FloatKind.f32 FloatKind.f64 (List.getD (aL cs ms) (Int.toNat i) 0) = true)
                                (T.leaf
                                  (Ex.normal,
                                    h_laws_FnApart_L0 cs ms (fadd FloatKind.f64 sum (fconv FloatKind.f32 FloatKind.f64 (List.getD (aE cs ms) (Int.toNat i) 0)))
                                      (fadd FloatKind.f64 told (fconv FloatKind.f32 FloatKind.f64 (List.getD (aL cs ms) (Int.toNat i) 0))) (IntKind.wrap IntKind.i64 (i + 1))))))))
                        (T.leaf (Ex.normal, h_laws_FnApart_L0 cs ms sum told (IntKind.wrap IntKind.i64 (i + 1))))))))))))
        (T.leaf (Ex.exit 0, h_laws_FnApart_L0 cs ms sum told i)))) :
    Exec VC ps_laws_FnApart (b_laws_FnApart_L0 g_laws_r8Long g_laws_r8At g_spec_R8Series g_impl_TakeApart g_impl_SeasonOf g_laws_r8Gap g_impl_StepOf) (h_laws_FnApart_L0 cs ms sum told i) e_ σ_ := evL_of (lv := lv_laws_FnApart_L0) (rs := [4]) (O := ⟨oc_laws_FnApart cs ms, fun _ _ => none⟩) (by kernel_rfl) ht

theorem q_laws_FnApart_L2 {VC : FuncId → List AV → AV → Prop} {g_laws_r8Long g_laws_r8At g_spec_R8Series g_impl_TakeApart g_impl_SeasonOf g_laws_r8Gap g_impl_StepOf : FuncId} (cs : List Int) (ms : List Int) (flat : List Nat) (i : Int) {e_ : Ex} {σ_ : Env} (ht : T.ok (fun x_ => x_ = (e_, σ_)) (
      T.ite (decide (i < IntKind.wrap IntKind.i64 (2 + atM ms 40 20)))
        (T.ite (decide (i ≥ IntKind.wrap IntKind.i64 (1 + atM ms 44 (IntKind.wrap IntKind.i64 (IntKind.wrap IntKind.i64 (2 + atM ms 40 20) - 1)))))
          (T.ob (List.length flat + List.length [fadd FloatKind.f32 1077936128 (fdiv FloatKind.f32 (fofi FloatKind.f32 (IntKind.wrap IntKind.i64 (1 + atM ms 45 9))) 1073741824)] ≤ 4294967296)
            (T.leaf
              (Ex.normal,
                h_laws_FnApart_L2 cs ms (flat ++ [fadd FloatKind.f32 1077936128 (fdiv FloatKind.f32 (fofi FloatKind.f32 (IntKind.wrap IntKind.i64 (1 + atM ms 45 9))) 1073741824)]) (IntKind.wrap IntKind.i64 (i + 1)))))
          (T.ob (List.length flat + 1 ≤ 4294967296) (T.leaf (Ex.normal, h_laws_FnApart_L2 cs ms (flat ++ [1077936128]) (IntKind.wrap IntKind.i64 (i + 1))))))
        (T.leaf (Ex.exit 2, h_laws_FnApart_L2 cs ms flat i)))) :
    Exec VC ps_laws_FnApart (b_laws_FnApart_L2 g_laws_r8Long g_laws_r8At g_spec_R8Series g_impl_TakeApart g_impl_SeasonOf g_laws_r8Gap g_impl_StepOf) (h_laws_FnApart_L2 cs ms flat i) e_ σ_ := evL_of (lv := lv_laws_FnApart_L2) (rs := [4]) (O := ⟨oc_laws_FnApart cs ms, fun _ _ => none⟩) (by kernel_rfl) ht

set_option maxHeartbeats 4000000 in
set_option maxRecDepth 100000 in
theorem q_laws_FnApart_S0 {VC : FuncId → List AV → AV → Prop} {g_laws_r8Long g_laws_r8At g_spec_R8Series g_impl_TakeApart g_impl_SeasonOf g_laws_r8Gap g_impl_StepOf : FuncId} (cs : List Int) (ms : List Int) {Q_ : Option AV × Env → Prop} (ht : T.ok Q_ (
      T.ob (VC g_laws_r8Long [AV.sl (Tag.par [0]) 0 (Cont.i IntKind.u8 cs), AV.sl (Tag.par [1]) 0 (Cont.i IntKind.u8 ms)] (AV.b (decide ((↑(List.length cs) : Int) > 48) || decide ((↑(List.length ms) : Int) > 48))))
        (T.ite (decide ((↑(List.length cs) : Int) > 48) || decide ((↑(List.length ms) : Int) > 48)) (T.leaf (some (AV.b true), []))
          (T.ob (VC g_laws_r8At [AV.sl (Tag.par [0]) 0 (Cont.i IntKind.u8 ms), AV.i IntKind.i64 40, AV.i IntKind.i64 20] (AV.i IntKind.i64 (atM ms 40 20)))
            (T.ob (VC g_spec_R8Series [AV.sl (Tag.par [0]) 0 (Cont.i IntKind.u8 cs), AV.i IntKind.i64 (IntKind.wrap IntKind.i64 (2 + atM ms 40 20))] (AV.sl (Tag.own 0) 0 (Cont.f FloatKind.f32 (aX cs ms))))
              (T.leaf (none, c_laws_FnApart_1 cs ms))))))) :
    T.ok Q_ (evK VC ps_laws_FnApart ks_laws_FnApart_1 [.t 4] (.b true) ⟨oc_laws_FnApart cs ms, fun id σ => match id with | 0 => some (lv_laws_FnApart_L0, .leaf (.normal, h_laws_FnApart_L0 cs ms (aSum cs ms (aN ms)) (aTold cs ms (aN ms)) (aN ms))) | 2 => some (lv_laws_FnApart_L2, .leaf (.normal, h_laws_FnApart_L2 cs ms (aF ms (aN ms)) (aN ms))) | _ => none⟩ (front 4 (b_laws_FnApart g_laws_r8Long g_laws_r8At g_spec_R8Series g_impl_TakeApart g_impl_SeasonOf g_laws_r8Gap g_impl_StepOf)) (startEnv 202 [PU [0] cs, PU [1] ms])) := evK_of (by kernel_rfl) ht

set_option maxHeartbeats 4000000 in
set_option maxRecDepth 100000 in
theorem q_laws_FnApart_S1 {VC : FuncId → List AV → AV → Prop} {g_laws_r8Long g_laws_r8At g_spec_R8Series g_impl_TakeApart g_impl_SeasonOf g_laws_r8Gap g_impl_StepOf : FuncId} (cs : List Int) (ms : List Int) {Q_ : Option AV × Env → Prop} (ht : T.ok Q_ (
      T.ob
        (VC g_laws_r8At
          [AV.sl (Tag.par [0]) 0 (Cont.i IntKind.u8 ms), AV.i IntKind.i64 41, AV.i IntKind.i64 (bif decide (6 < IntKind.wrap IntKind.i64 (2 + atM ms 40 20)) then 6 else IntKind.wrap IntKind.i64 (2 + atM ms 40 20))]
          (AV.i IntKind.i64 (atM ms 41 (bif decide (6 < IntKind.wrap IntKind.i64 (2 + atM ms 40 20)) then 6 else IntKind.wrap IntKind.i64 (2 + atM ms 40 20)))))
        (T.ob (VC g_laws_r8At [AV.sl (Tag.par [0]) 0 (Cont.i IntKind.u8 ms), AV.i IntKind.i64 42, AV.i IntKind.i64 6] (AV.i IntKind.i64 (atM ms 42 6)))
          (T.ob (VC g_laws_r8At [AV.sl (Tag.par [0]) 0 (Cont.i IntKind.u8 ms), AV.i IntKind.i64 43, AV.i IntKind.i64 4] (AV.i IntKind.i64 (atM ms 43 4)))
            (T.ob
              (VC g_impl_TakeApart
                [AV.sl (Tag.par [0]) 0 (Cont.f FloatKind.f32 (aX cs ms)),
                  AV.i IntKind.i64 (IntKind.wrap IntKind.i64 (1 + atM ms 41 (bif decide (6 < IntKind.wrap IntKind.i64 (2 + atM ms 40 20)) then 6 else IntKind.wrap IntKind.i64 (2 + atM ms 40 20)))),
                  AV.i IntKind.i64 (atM ms 42 6), AV.i IntKind.i64 (IntKind.wrap IntKind.i64 (1 + atM ms 43 4))]
                (AV.tup [AV.sl (Tag.own 0) 0 (Cont.f FloatKind.f32 (aT cs ms)), AV.sl (Tag.own 1) 0 (Cont.f FloatKind.f32 (aE cs ms)), AV.sl (Tag.own 2) 0 (Cont.f FloatKind.f32 (aQ cs ms)), AV.b true]))
              (T.ob
                (VC g_impl_SeasonOf
                  [AV.sl (Tag.par [0]) 0 (Cont.f FloatKind.f32 (aX cs ms)),
                    AV.i IntKind.i64 (IntKind.wrap IntKind.i64 (1 + atM ms 41 (bif decide (6 < IntKind.wrap IntKind.i64 (2 + atM ms 40 20)) then 6 else IntKind.wrap IntKind.i64 (2 + atM ms 40 20))))]
                  (AV.tup [AV.sl (Tag.own 0) 0 (Cont.f FloatKind.f32 (aL cs ms)), AV.b true]))
                (T.leaf (none, c_laws_FnApart_2 cs ms)))))))) :
    T.ok Q_ (evK VC ps_laws_FnApart ks_laws_FnApart_2 [.t 4] (.b true) ⟨oc_laws_FnApart cs ms, fun id σ => match id with | 0 => some (lv_laws_FnApart_L0, .leaf (.normal, h_laws_FnApart_L0 cs ms (aSum cs ms (aN ms)) (aTold cs ms (aN ms)) (aN ms))) | 2 => some (lv_laws_FnApart_L2, .leaf (.normal, h_laws_FnApart_L2 cs ms (aF ms (aN ms)) (aN ms))) | _ => none⟩ (front 3 (rest 4 (b_laws_FnApart g_laws_r8Long g_laws_r8At g_spec_R8Series g_impl_TakeApart g_impl_SeasonOf g_laws_r8Gap g_impl_StepOf))) (c_laws_FnApart_1 cs ms)) := evK_of (by kernel_rfl) ht

set_option maxHeartbeats 4000000 in
set_option maxRecDepth 100000 in
theorem q_laws_FnApart_S2 {VC : FuncId → List AV → AV → Prop} {g_laws_r8Long g_laws_r8At g_spec_R8Series g_impl_TakeApart g_impl_SeasonOf g_laws_r8Gap g_impl_StepOf : FuncId} (cs : List Int) (ms : List Int) {Q_ : Option AV × Env → Prop} (ht : T.ok Q_ (
      T.ite false (T.leaf (some (AV.b false), []))
        (T.ite false (T.leaf (some (AV.b false), []))
          (T.ite ((↑(List.length (aT cs ms)) : Int) != IntKind.wrap IntKind.i64 (2 + atM ms 40 20)) (T.leaf (some (AV.b false), []))
            (T.ite ((↑(List.length (aE cs ms)) : Int) != IntKind.wrap IntKind.i64 (2 + atM ms 40 20)) (T.leaf (some (AV.b false), []))
              (T.ite ((↑(List.length (aQ cs ms)) : Int) != IntKind.wrap IntKind.i64 (2 + atM ms 40 20)) (T.leaf (some (AV.b false), []))
                (T.ite ((↑(List.length (aL cs ms)) : Int) != IntKind.wrap IntKind.i64 (1 + atM ms 41 (bif decide (6 < IntKind.wrap IntKind.i64 (2 + atM ms 40 20)) then 6 else IntKind.wrap IntKind.i64 (2 + atM ms 40 20))))
                  (T.leaf (some (AV.b false), [])) (T.leaf (none, c_laws_FnApart_2 cs ms))))))))) :
    T.ok Q_ (evK VC ps_laws_FnApart ks_laws_FnApart_3 [.t 4] (.b true) ⟨oc_laws_FnApart cs ms, fun id σ => match id with | 0 => some (lv_laws_FnApart_L0, .leaf (.normal, h_laws_FnApart_L0 cs ms (aSum cs ms (aN ms)) (aTold cs ms (aN ms)) (aN ms))) | 2 => some (lv_laws_FnApart_L2, .leaf (.normal, h_laws_FnApart_L2 cs ms (aF ms (aN ms)) (aN ms))) | _ => none⟩ (front 1 (rest 3 (rest 4 (b_laws_FnApart g_laws_r8Long g_laws_r8At g_spec_R8Series g_impl_TakeApart g_impl_SeasonOf g_laws_r8Gap g_impl_StepOf)))) (c_laws_FnApart_2 cs ms)) := evK_of (by kernel_rfl) ht

set_option maxHeartbeats 4000000 in
set_option maxRecDepth 100000 in
theorem q_laws_FnApart_S3 {VC : FuncId → List AV → AV → Prop} {g_laws_r8Long g_laws_r8At g_spec_R8Series g_impl_TakeApart g_impl_SeasonOf g_laws_r8Gap g_impl_StepOf : FuncId} (cs : List Int) (ms : List Int) {Q_ : Option AV × Env → Prop} (ht : T.ok Q_ (
      T.ob
        (Exec VC ps_laws_FnApart (VCode.block 0 (VCode.loop (b_laws_FnApart_L0 g_laws_r8Long g_laws_r8At g_spec_R8Series g_impl_TakeApart g_impl_SeasonOf g_laws_r8Gap g_impl_StepOf))) (h_laws_FnApart_L0 cs ms 0 0 0) Ex.normal
          (c_laws_FnApart_4 cs ms))
        (T.leaf (none, c_laws_FnApart_4 cs ms)))) :
    T.ok Q_ (evK VC ps_laws_FnApart ks_laws_FnApart_4 [.t 4] (.b true) ⟨oc_laws_FnApart cs ms, fun id σ => match id with | 0 => some (lv_laws_FnApart_L0, .leaf (.normal, h_laws_FnApart_L0 cs ms (aSum cs ms (aN ms)) (aTold cs ms (aN ms)) (aN ms))) | 2 => some (lv_laws_FnApart_L2, .leaf (.normal, h_laws_FnApart_L2 cs ms (aF ms (aN ms)) (aN ms))) | _ => none⟩ (front 3 (rest 1 (rest 3 (rest 4 (b_laws_FnApart g_laws_r8Long g_laws_r8At g_spec_R8Series g_impl_TakeApart g_impl_SeasonOf g_laws_r8Gap g_impl_StepOf))))) (c_laws_FnApart_3 cs ms)) := evK_of (by kernel_rfl) ht

set_option maxHeartbeats 4000000 in
set_option maxRecDepth 100000 in
theorem q_laws_FnApart_S4 {VC : FuncId → List AV → AV → Prop} {g_laws_r8Long g_laws_r8At g_spec_R8Series g_impl_TakeApart g_impl_SeasonOf g_laws_r8Gap g_impl_StepOf : FuncId} (cs : List Int) (ms : List Int) {Q_ : Option AV × Env → Prop} (ht : T.ok Q_ (
      T.ob (fconvOk FloatKind.f64 FloatKind.f32 (aSum cs ms (aN ms)) = true)
        (T.ob (VC g_laws_r8Gap [AV.f FloatKind.f32 (fconv FloatKind.f64 FloatKind.f32 (aSum cs ms (aN ms))), AV.f FloatKind.f32 0] (AV.f FloatKind.f64 (r8G (fconv FloatKind.f64 FloatKind.f32 (aSum cs ms (aN ms))) 0)))
          (T.ite (fgt FloatKind.f64 (r8G (fconv FloatKind.f64 FloatKind.f32 (aSum cs ms (aN ms))) 0) 4562254508917369340) (T.leaf (some (AV.b false), []))
            (T.ob (fconvOk FloatKind.f64 FloatKind.f32 (aTold cs ms (aN ms)) = true)
              (T.ob (VC g_laws_r8Gap [AV.f FloatKind.f32 (fconv FloatKind.f64 FloatKind.f32 (aTold cs ms (aN ms))), AV.f FloatKind.f32 0] (AV.f FloatKind.f64 (r8G (fconv FloatKind.f64 FloatKind.f32 (aTold cs ms (aN ms))) 0)))
                (T.ite (fgt FloatKind.f64 (r8G (fconv FloatKind.f64 FloatKind.f32 (aTold cs ms (aN ms))) 0) 4562254508917369340) (T.leaf (some (AV.b false), [])) (T.leaf (none, c_laws_FnApart_4 cs ms))))))))) :
    T.ok Q_ (evK VC ps_laws_FnApart ks_laws_FnApart_5 [.t 4] (.b true) ⟨oc_laws_FnApart cs ms, fun id σ => match id with | 0 => some (lv_laws_FnApart_L0, .leaf (.normal, h_laws_FnApart_L0 cs ms (aSum cs ms (aN ms)) (aTold cs ms (aN ms)) (aN ms))) | 2 => some (lv_laws_FnApart_L2, .leaf (.normal, h_laws_FnApart_L2 cs ms (aF ms (aN ms)) (aN ms))) | _ => none⟩ (front 1 (rest 3 (rest 1 (rest 3 (rest 4 (b_laws_FnApart g_laws_r8Long g_laws_r8At g_spec_R8Series g_impl_TakeApart g_impl_SeasonOf g_laws_r8Gap g_impl_StepOf)))))) (c_laws_FnApart_4 cs ms)) := evK_of (by kernel_rfl) ht

set_option maxHeartbeats 4000000 in
set_option maxRecDepth 100000 in
theorem q_laws_FnApart_S5 {VC : FuncId → List AV → AV → Prop} {g_laws_r8Long g_laws_r8At g_spec_R8Series g_impl_TakeApart g_impl_SeasonOf g_laws_r8Gap g_impl_StepOf : FuncId} (cs : List Int) (ms : List Int) {Q_ : Option AV × Env → Prop} (ht : T.ok Q_ (
      T.ob
        (VC g_laws_r8At [AV.sl (Tag.par [0]) 0 (Cont.i IntKind.u8 ms), AV.i IntKind.i64 44, AV.i IntKind.i64 (IntKind.wrap IntKind.i64 (IntKind.wrap IntKind.i64 (2 + atM ms 40 20) - 1))]
          (AV.i IntKind.i64 (atM ms 44 (IntKind.wrap IntKind.i64 (IntKind.wrap IntKind.i64 (2 + atM ms 40 20) - 1)))))
        (T.ob (VC g_laws_r8At [AV.sl (Tag.par [0]) 0 (Cont.i IntKind.u8 ms), AV.i IntKind.i64 45, AV.i IntKind.i64 9] (AV.i IntKind.i64 (atM ms 45 9)))
          (T.ob True
            (T.ob True
              (T.ob
                (Exec VC ps_laws_FnApart (VCode.block 2 (VCode.loop (b_laws_FnApart_L2 g_laws_r8Long g_laws_r8At g_spec_R8Series g_impl_TakeApart g_impl_SeasonOf g_laws_r8Gap g_impl_StepOf))) (h_laws_FnApart_L2 cs ms [] 0)
                  Ex.normal (c_laws_FnApart_6 cs ms))
                (T.leaf (none, c_laws_FnApart_6 cs ms)))))))) :
    T.ok Q_ (evK VC ps_laws_FnApart ks_laws_FnApart_6 [.t 4] (.b true) ⟨oc_laws_FnApart cs ms, fun id σ => match id with | 0 => some (lv_laws_FnApart_L0, .leaf (.normal, h_laws_FnApart_L0 cs ms (aSum cs ms (aN ms)) (aTold cs ms (aN ms)) (aN ms))) | 2 => some (lv_laws_FnApart_L2, .leaf (.normal, h_laws_FnApart_L2 cs ms (aF ms (aN ms)) (aN ms))) | _ => none⟩ (front 4 (rest 1 (rest 3 (rest 1 (rest 3 (rest 4 (b_laws_FnApart g_laws_r8Long g_laws_r8At g_spec_R8Series g_impl_TakeApart g_impl_SeasonOf g_laws_r8Gap g_impl_StepOf))))))) (c_laws_FnApart_5 cs ms)) := evK_of (by kernel_rfl) ht

set_option maxHeartbeats 4000000 in
set_option maxRecDepth 100000 in
theorem q_laws_FnApart_S6 {VC : FuncId → List AV → AV → Prop} {g_laws_r8Long g_laws_r8At g_spec_R8Series g_impl_TakeApart g_impl_SeasonOf g_laws_r8Gap g_impl_StepOf : FuncId} (cs : List Int) (ms : List Int) {Q_ : Option AV × Env → Prop} (ht : T.ok Q_ (
      T.ob (VC g_impl_StepOf [AV.sl (Tag.par [0]) 0 (Cont.f FloatKind.f32 (aF ms (aN ms)))] (AV.tup [AV.i IntKind.i64 (↑(aAt ms) : Int), AV.f FloatKind.f32 (aH ms), AV.b true]))
        (T.ite true
          (T.ite ((↑(aAt ms) : Int) == IntKind.wrap IntKind.i64 (1 + atM ms 44 (IntKind.wrap IntKind.i64 (IntKind.wrap IntKind.i64 (2 + atM ms 40 20) - 1))))
            (T.ob
              (VC g_laws_r8Gap [AV.f FloatKind.f32 (aH ms), AV.f FloatKind.f32 (fdiv FloatKind.f32 (fofi FloatKind.f32 (IntKind.wrap IntKind.i64 (1 + atM ms 45 9))) 1073741824)]
                (AV.f FloatKind.f64 (r8G (aH ms) (fdiv FloatKind.f32 (fofi FloatKind.f32 (IntKind.wrap IntKind.i64 (1 + atM ms 45 9))) 1073741824))))
              (T.leaf (some (AV.b (flt FloatKind.f64 (r8G (aH ms) (fdiv FloatKind.f32 (fofi FloatKind.f32 (IntKind.wrap IntKind.i64 (1 + atM ms 45 9))) 1073741824)) 4562254508917369340)), [])))
            (T.leaf (some (AV.b false), [])))
          (T.leaf (some (AV.b false), []))))) :
    T.ok Q_ (evS VC ps_laws_FnApart [.t 4] (.b true) ⟨oc_laws_FnApart cs ms, fun id σ => match id with | 0 => some (lv_laws_FnApart_L0, .leaf (.normal, h_laws_FnApart_L0 cs ms (aSum cs ms (aN ms)) (aTold cs ms (aN ms)) (aN ms))) | 2 => some (lv_laws_FnApart_L2, .leaf (.normal, h_laws_FnApart_L2 cs ms (aF ms (aN ms)) (aN ms))) | _ => none⟩ (rest 4 (rest 1 (rest 3 (rest 1 (rest 3 (rest 4 (b_laws_FnApart g_laws_r8Long g_laws_r8At g_spec_R8Series g_impl_TakeApart g_impl_SeasonOf g_laws_r8Gap g_impl_StepOf))))))) (c_laws_FnApart_6 cs ms)) := evS_of (by kernel_rfl) ht

-- END laws_FnApart

theorem accN_cut {f : Nat → Nat → Nat} {a p : Nat} : ∀ n, p ≤ n → accN (fun i s => if i < p then f i s else s) n a = accN f p a
  | 0, h => by rw [show p = 0 by omega]; rfl
  | n + 1, h => by
    by_cases hp : p = n + 1
    · rw [hp]
      refine accN_congr fun i s hi => ?_
      rw [if_pos hi]
    · have e : accN (fun i s => if i < p then f i s else s) (n + 1) a = (if n < p then f n (accN (fun i s => if i < p then f i s else s) n a) else accN (fun i s => if i < p then f i s else s) n a) := rfl
      rw [e, if_neg (by omega)]
      exact accN_cut n (by omega)
/-- what the law draws -/
structure AD (cs ms : List Int) : Prop where
  hn : 2 ≤ aN ms ∧ aN ms ≤ 21
  wN : IntKind.wrap .i64 (2 + atM ms 40 20) = (aN ms : Int)
  w1 : IntKind.wrap .i64 ((aN ms : Int) - 1) = ((aN ms - 1 : Nat) : Int)
  rb : RB (aX cs ms) (aN ms)
  hp : 1 ≤ aP ms ∧ aP ms ≤ aN ms ∧ aP ms ≤ 6
  wM : (bif decide (6 < (aN ms : Int)) then 6 else (aN ms : Int)) = (min (aN ms) 6 : Nat)
  wP : IntKind.wrap .i64 (1 + atM ms 41 (min (aN ms) 6 : Nat)) = (aP ms : Int)
  hs : aS ms ≤ 5
  wS : atM ms 42 6 = (aS ms : Int)
  hr : 1 ≤ aR ms ∧ aR ms ≤ 4
  wR : IntKind.wrap .i64 (1 + atM ms 43 4) = (aR ms : Int)
  ha : 1 ≤ aAt ms ∧ aAt ms < aN ms
  wA : IntKind.wrap .i64 (1 + atM ms 44 ((aN ms - 1 : Nat) : Int)) = (aAt ms : Int)
  hb : ∃ k : Nat, 1 ≤ k ∧ k ≤ 9 ∧ aB ms = fdiv .f32 (fofi .f32 (k : Int)) 1073741824
theorem ad_of {cs ms : List Int} (hc : Byt cs) (hm : Byt ms) : AD cs ms := by
  have a0 := at_le hm (i := 40) (n := 20) (by omega)
  have eN : ((aN ms : Nat) : Int) = 2 + atM ms 40 20 := by unfold aN; omega
  have hn : 2 ≤ aN ms ∧ aN ms ≤ 21 := by omega
  have a1 := at_le hm (i := 41) (n := (min (aN ms) 6 : Nat)) (by omega)
  have a2 := at_le hm (i := 42) (n := 6) (by omega)
  have a3 := at_le hm (i := 43) (n := 4) (by omega)
  have a4 := at_le hm (i := 44) (n := (aN ms : Int) - 1) (by omega)
  have a5 := at_le hm (i := 45) (n := 9) (by omega)
  have e1 : ((aN ms - 1 : Nat) : Int) = (aN ms : Int) - 1 := by omega
  exact {
    hn := hn
    wN := by rw [eN]; exact wrap64_id (by omega) (by omega)
    w1 := by rw [e1]; exact wrap64_id (by omega) (by omega)
    rb := s2L_RB hc (by omega)
    hp := by unfold aP; omega
    wM := by
      by_cases h : 6 < (aN ms : Int)
      · rw [decide_eq_true h, cond_true]; omega
      · rw [decide_eq_false h, cond_false]; omega
    wP := by rw [wrap64_id (by omega) (by omega)]; unfold aP; omega
    hs := by unfold aS; omega
    wS := by unfold aS; omega
    hr := by unfold aR; omega
    wR := by rw [wrap64_id (by omega) (by omega)]; unfold aR; omega
    ha := by unfold aAt; omega
    wA := by rw [e1, wrap64_id (by omega) (by omega)]; unfold aAt; omega
    hb := ⟨(1 + atM ms 45 9).toNat, by omega, by omega, by unfold aB; rw [wrap64_id (by omega) (by omega), show (((1 + atM ms 45 9).toNat : Nat) : Int) = 1 + atM ms 45 9 by omega]⟩ }
section
variable {P : Program} {cs ms : List Int} {g1 g2 g3 g4 g5 g6 g7 : FuncId}
theorem AD.lx (d : AD cs ms) : (aX cs ms).length = aN ms := d.rb.ln
theorem AD.parts (d : AD cs ms) : SB (aP ms) (4815 / 10) (taS (aX cs ms) (aP ms) (aS ms) (aR ms)).2 ∧ TB (aX cs ms) (2408 / 10) (aT cs ms) ∧
    -(88 / 100000) ≤ (sumQ (aP ms) fun i => sv ((taS (aX cs ms) (aP ms) (aS ms) (aR ms)).2.getD i 0)) ∧ (sumQ (aP ms) fun i => sv ((taS (aX cs ms) (aP ms) (aS ms) (aR ms)).2.getD i 0)) ≤ 88 / 100000 := by
  have hr := d.hr
  obtain ⟨b, h⟩ := ta_box d.rb (aS ms) d.hp (aR ms) hr.2
  obtain ⟨t, z1, z2⟩ := h hr.1
  have h1 := abB_le (n := aR ms - 1) (by omega)
  have h2 : abB (aR ms) ≤ 4815 / 10 := by
    obtain ⟨a0, a1, a2, a3, a4⟩ := abB_3
    have : aR ms = 1 ∨ aR ms = 2 ∨ aR ms = 3 ∨ aR ms = 4 := by omega
    rcases this with e | e | e | e <;> rw [e] <;> grind
  refine ⟨⟨b.ln, fun k hk => ?_⟩, ⟨t.ln, fun i hi => ?_⟩, z1, z2⟩
  · obtain ⟨p, q, r⟩ := b.bd k hk
    exact ⟨p, by grind, by grind⟩
  · obtain ⟨p, q, r⟩ := t.bd i hi
    exact ⟨p, by show _ ≤ sv _ - sv ((taS (aX cs ms) (aP ms) (aS ms) (aR ms)).1.getD i 0); grind, by show sv _ - sv ((taS (aX cs ms) (aP ms) (aS ms) (aR ms)).1.getD i 0) ≤ _; grind⟩
theorem AD.el (d : AD cs ms) : (aE cs ms).length = aN ms := by unfold aE; rw [spr_len, d.lx]
theorem AD.ea (d : AD cs ms) {i : Nat} (hi : i < aN ms) : (aE cs ms).getD i 0 = (taS (aX cs ms) (aP ms) (aS ms) (aR ms)).2.getD (i % aP ms) 0 := by
  unfold aE
  rw [spr_at _ (by rw [d.lx]; exact hi), d.parts.1.ln]
theorem AD.es (d : AD cs ms) {i : Nat} (hi : i < aN ms) : sf ((aE cs ms).getD i 0) ∧ -(4815 / 10) ≤ sv ((aE cs ms).getD i 0) ∧ sv ((aE cs ms).getD i 0) ≤ 4815 / 10 := by
  have hp := d.hp
  rw [d.ea hi]; exact d.parts.1.bd _ (Nat.mod_lt _ (by omega))
theorem AD.ql (d : AD cs ms) : (aQ cs ms).length = aN ms := by
  show (lessM (lessM _ _) _).length = _
  rw [less_len, less_len, d.lx]
theorem AD.sums (d : AD cs ms) {i : Nat} (hi : i < aN ms) : sf ((aQ cs ms).getD i 0) ∧ fgt .f64 (r8G (fadd .f32 (fadd .f32 ((aT cs ms).getD i 0) ((aE cs ms).getD i 0)) ((aQ cs ms).getD i 0)) ((aX cs ms).getD i 0)) 4562254508917369340 = false := by
  have lx := d.lx
  obtain ⟨_, t, _⟩ := d.parts
  obtain ⟨t1, t2, t3⟩ := t.bd i (by omega)
  obtain ⟨s1, s2, s3⟩ := d.es hi
  have hx := d.rb.hl i (by omega)
  obtain ⟨x1, x2⟩ := hx.bound HL46
  have e : (aQ cs ms).getD i 0 = fsub .f32 (fsub .f32 ((aX cs ms).getD i 0) ((aT cs ms).getD i 0)) ((aE cs ms).getD i 0) := by
    show (lessM (lessM _ _) _).getD i 0 = _
    rw [less_at _ _ (by rw [less_len]; omega), less_at _ _ (by omega)]; rfl
  obtain ⟨p1, p2, p3, p4⟩ := parts_near hx.1 t1 s1 x1 x2 ⟨t2, t3⟩ (by decide +kernel) ⟨s2, s3⟩ (by decide +kernel)
  rw [e]
  exact ⟨p1, r8G_near9 p2 hx.1 (by grind) (by grind)⟩
theorem AD.ll (d : AD cs ms) : (aL cs ms).length = aP ms := season_len _ _
theorem aSum_succ (cs ms : List Int) (i : Nat) : aSum cs ms (i + 1) = if i < aP ms then fadd .f64 (aSum cs ms i) (fconv .f32 .f64 ((aE cs ms).getD i 0)) else aSum cs ms i := rfl
theorem aTold_succ (cs ms : List Int) (i : Nat) : aTold cs ms (i + 1) = if i < aP ms then fadd .f64 (aTold cs ms i) (fconv .f32 .f64 ((aL cs ms).getD i 0)) else aTold cs ms i := rfl
theorem ad_loop0 (d : AD cs ms) (c6 : C_laws_r8Gap P g6) :
    Exec (VCall P) ps_laws_FnApart (VCode.block 0 (VCode.loop (b_laws_FnApart_L0 g1 g2 g3 g4 g5 g6 g7))) (h_laws_FnApart_L0 cs ms 0 0 0) Ex.normal (c_laws_FnApart_4 cs ms) := by
  have hn := d.hn; have lx := d.lx; have hp := d.hp; have el := d.el; have ql := d.ql; have ll := d.ll
  have tl : (aT cs ms).length = aN ms := by rw [d.parts.2.1.ln, lx]
  refine for_up (e := .exit 0) (aN ms) (fun i => h_laws_FnApart_L0 cs ms (aSum cs ms i) (aTold cs ms i) (i : Nat)) (by first | rfl | simp) (fun i hi => ?_) ?_
  · refine q_laws_FnApart_L0 _ _ _ _ _ ?_
    rw [d.wN, d.wM, d.wP, w_succ (by omega), (aSum_succ cs ms i), (aTold_succ cs ms i)]
    simp only [Int.toNat_natCast]
    rw [(d.sums hi).2]
    refine T.ok_ite (fun _ => ?_) (fun h => absurd (of_decide_eq_false h) (by omega))
    refine T.ok_ob ⟨by omega, by omega⟩ fun _ => T.ok_ob ⟨by omega, by omega⟩ fun _ => T.ok_ob ⟨by omega, by omega⟩ fun _ => T.ok_ob ⟨by omega, by omega⟩ fun _ => T.ok_ob (c6 _ _) fun _ => T.ok_ifalse (T.ok_ite (fun h => ?_) (fun h => ?_))
    · have h := of_decide_eq_true h
      have hge : aP ms ≤ i := by omega
      have e2 : IntKind.wrap .i64 ((i : Int) - (aP ms : Int)) = ((i - aP ms : Nat) : Int) := by rw [wrap64_id (by omega) (by omega)]; omega
      have e3 : (aE cs ms).getD (i - aP ms) 0 = (aE cs ms).getD i 0 := by
        rw [d.ea hi, d.ea (by omega)]
        rw [show i % aP ms = (i - aP ms) % aP ms by rw [Nat.mod_eq_sub_mod hge]]
      rw [e2, Int.toNat_natCast, e3, fne_same (d.es hi).1 (d.es hi).1 rfl, if_neg (by omega), if_neg (by omega)]
      exact T.ok_ob ⟨by omega, by omega⟩ fun _ => T.ok_ob ⟨by omega, by omega⟩ fun _ => T.ok_ifalse (T.ok_ite (fun h => absurd (of_decide_eq_true h) (by omega)) (fun _ => T.ok_leaf rfl))
    · have h := of_decide_eq_false h
      have hlt : i < aP ms := by omega
      rw [if_pos hlt, if_pos hlt]
      exact T.ok_ite (fun _ => T.ok_ob ⟨by omega, by omega⟩ fun _ => T.ok_ob (fconvOk_32_64 _) fun _ => T.ok_ob ⟨by omega, by omega⟩ fun _ => T.ok_ob (fconvOk_32_64 _) fun _ => T.ok_leaf rfl) (fun h => absurd (of_decide_eq_false h) (by omega))
  · refine q_laws_FnApart_L0 _ _ _ _ _ ?_
    rw [d.wN]
    exact T.ok_ite (fun h => absurd (of_decide_eq_true h) (by omega)) (fun _ => T.ok_leaf rfl)
theorem aF_succ (ms : List Int) (i : Nat) : aF ms (i + 1) = aF ms i ++ [if aAt ms ≤ i then fadd .f32 1077936128 (aB ms) else 1077936128] := tab_succ _ _
theorem ad_loop2 (d : AD cs ms) :
    Exec (VCall P) ps_laws_FnApart (VCode.block 2 (VCode.loop (b_laws_FnApart_L2 g1 g2 g3 g4 g5 g6 g7))) (h_laws_FnApart_L2 cs ms [] 0) Ex.normal (h_laws_FnApart_L2 cs ms (aF ms (aN ms)) (aN ms : Nat)) := by
  have hn := d.hn
  refine for_up (e := .exit 2) (aN ms) (fun i => h_laws_FnApart_L2 cs ms (aF ms i) (i : Nat)) (by first | rfl | simp) (fun i hi => ?_) ?_
  · refine q_laws_FnApart_L2 _ _ _ _ ?_
    have lf : (aF ms i).length = i := tab_len _ _
    rw [d.wN, d.w1, d.wA, w_succ (by omega)]
    refine T.ok_ite (fun _ => T.ok_ite (fun h => ?_) (fun h => ?_)) (fun h => absurd (of_decide_eq_false h) (by omega))
    · have h := of_decide_eq_true h
      refine T.ok_ob (by simp only [List.length_singleton]; omega) fun _ => T.ok_leaf ?_
      rw [aF_succ, if_pos (by omega)]; rfl
    · have h := of_decide_eq_false h
      refine T.ok_ob (by omega) fun _ => T.ok_leaf ?_
      rw [aF_succ, if_neg (by omega)]
  · refine q_laws_FnApart_L2 _ _ _ _ ?_
    rw [d.wN]
    exact T.ok_ite (fun h => absurd (of_decide_eq_true h) (by omega)) (fun _ => T.ok_leaf rfl)
theorem three_sf : sf 1077936128 ∧ sv 1077936128 = 3 := by
  have hf : fnt single 1077936128 := by unfold fnt; decide
  exact ⟨hf, lit_neg (n := 22) (m := 12582912) hf (by decide) (by decide +kernel)⟩
theorem AD.step (d : AD cs ms) : StepL (aF ms (aN ms)) (aN ms) (aAt ms) 3 (3 + sv (aB ms)) ∧ sf (aB ms) := by
  obtain ⟨k, k1, k2, k3⟩ := d.hb
  obtain ⟨b1, b2, b3⟩ := half_val (a := k) (by omega)
  rw [← k3] at b1 b2 b3
  obtain ⟨t1, t2⟩ := three_sf
  have g3 : Gr (-1) 6 (sv 1077936128) := ⟨6, by rw [t2, half_zp]; decide +kernel, by decide⟩
  have g9 : Gr (-1) 9 (sv (aB ms)) := b3.mono k2
  obtain ⟨s1, s2⟩ := add_gr .f32 t1 b1 g3 g9 (by decide) (by decide) (by decide)
  have s2 : sv (fadd .f32 1077936128 (aB ms)) = 3 + sv (aB ms) := by rw [← t2]; exact s2
  have gs : Gr (-1) 46 (sv (fadd .f32 1077936128 (aB ms))) := by rw [s2, ← t2]; exact (g3.add g9).mono (by omega)
  have at1 : ∀ i, i < aN ms → (aF ms (aN ms)).getD i 0 = if aAt ms ≤ i then fadd .f32 1077936128 (aB ms) else 1077936128 := fun i hi => tab_at' _ _ hi
  have lf : (aF ms (aN ms)).length = aN ms := tab_len _ _
  refine ⟨⟨d.hn, d.ha, lf, fun i hi => ?_, fun i hi => ?_, fun i h1 h2 => ?_, ?_⟩, b1⟩
  · rw [lf] at hi
    rw [at1 i hi]
    split
    · exact ⟨s1, gs⟩
    · exact ⟨t1, g3.mono (by omega)⟩
  · have := d.ha
    rw [at1 i (by omega), if_neg (by omega)]; exact t2
  · rw [at1 i h2, if_pos h1]; exact s2
  · have k1' : (1 : Rat) ≤ k := nat_le_rat k1
    rw [b2]; grind
end
theorem k_laws_FnApart {P : Program} {f g1 g2 g3 g4 g5 g6 g7 : FuncId} (h : Is_laws_FnApart P f g1 g2 g3 g4 g5 g6 g7) (c1 : C_laws_r8Long P g1) (c2 : C_laws_r8At P g2) (c3 : C_spec_R8Series P g3) (c4 : C_impl_TakeApart P g4) (c5 : C_impl_SeasonOf P g5) (c6 : C_laws_r8Gap P g6) (c7 : C_impl_StepOf P g7) : C_laws_FnApart P f := by
  intro cs ms
  refine VCall.rng (fun hr => ?_)
  obtain ⟨r1, r2, _⟩ := hr
  obtain ⟨hc, lc⟩ := byt_of (cs := cs) r1
  obtain ⟨hm, lm⟩ := byt_of (cs := ms) r2
  have d := ad_of hc hm
  have hn := d.hn; have lx := d.lx; have hp := d.hp; have el := d.el; have ql := d.ql; have ll := d.ll; have hs := d.hs; have hr := d.hr; have ha := d.ha
  have mx : maxLen = 9223372036854775807 := rfl
  obtain ⟨sb, tb, z1, z2⟩ := d.parts
  have tl : (aT cs ms).length = aN ms := by rw [tb.ln, lx]
  obtain ⟨ab, y1, y2⟩ := alone_box d.rb hp
  have ser : seriesM (aX cs ms) = true := d.rb.hl.series (by omega)
  obtain ⟨st, sb1⟩ := d.step
  obtain ⟨f1, f2, f3, f4⟩ := st.found
  refine h.call_cut (ps := ps_laws_FnApart) ?_
  refine cut_stepK (H := True) (σ1 := c_laws_FnApart_1 cs ms) (q_laws_FnApart_S0 cs ms ?_) (fun _ => ?_)
  · refine T.ok_ob (c1 _ _) fun _ => T.ok_ite (fun _ => T.ok_end rfl) fun _ => ?_
    rw [d.wN]
    exact T.ok_ob (c2 _ _ _ (by omega) hm) fun _ => T.ok_ob (c3 _ _ (by omega) hc lc) fun _ => T.ok_go True.intro
  refine cut_stepK (H := True) (σ1 := c_laws_FnApart_2 cs ms) (q_laws_FnApart_S1 cs ms ?_) (fun _ => ?_)
  · have a4 := c4 (aX cs ms) (aP ms) (aS ms) (aR ms) (by omega)
    have ok4 : taOk (aX cs ms) (aP ms) (aS ms) (aR ms) = true := by
      unfold taOk
      simp only [Int.toNat_natCast]
      have t1 : finAllM (taS (aX cs ms) (aP ms) (aS ms) (aR ms)).1 = true := finAll_of fun i hi => (tb.bd i (by have : (aT cs ms).length = _ := tl; unfold aT at this; omega)).1
      have t2 : finAllM (taS (aX cs ms) (aP ms) (aS ms) (aR ms)).2 = true := finAll_of fun i hi => (sb.bd i (by rw [sb.ln] at hi; exact hi)).1
      have t3 : finAllM (taR (aX cs ms) (aP ms) (aS ms) (aR ms)) = true := finAll_of fun i hi => (d.sums (i := i) (by have : (aQ cs ms).length = _ := ql; unfold aQ at this; omega)).1
      rw [ser, t1, t2, t3, inM_of (by omega), inM_of (by omega), inM_of (by omega)]; rfl
    rw [ok4, if_pos rfl, if_pos rfl, if_pos rfl] at a4
    simp only [Int.toNat_natCast] at a4
    have a5 := c5 (aX cs ms) (aP ms) (by omega)
    have ok5 : seasonOk (aX cs ms) (aP ms) = true := by
      unfold seasonOk
      rw [Int.toNat_natCast]
      have t1 : finAllM (seasonM (aX cs ms) (aP ms)) = true := finAll_of fun i hi => (ab.bd i (by rw [ab.ln] at hi; exact hi)).1
      rw [ser, t1, inM_of (by omega)]; rfl
    rw [ok5, if_pos rfl, Int.toNat_natCast] at a5
    have b2 := c2 ms 42 6 (by omega) hm
    rw [d.wS] at b2
    rw [d.wN, d.wM, d.wP, d.wS, d.wR]
    exact T.ok_ob (c2 _ _ _ (by omega) hm) fun _ => T.ok_ob b2 fun _ => T.ok_ob (c2 _ _ _ (by omega) hm) fun _ => T.ok_ob a4 fun _ => T.ok_ob a5 fun _ => T.ok_go True.intro
  refine cut_stepK (H := True) (σ1 := c_laws_FnApart_3 cs ms) (q_laws_FnApart_S2 cs ms ?_) (fun _ => ?_)
  · rw [d.wN, d.wM, d.wP, bne_no (by omega), bne_no (by omega), bne_no (by omega), bne_no (by omega)]
    exact T.ok_ifalse (T.ok_ifalse (T.ok_ifalse (T.ok_ifalse (T.ok_ifalse (T.ok_ifalse (T.ok_go True.intro))))))
  refine cut_stepK (H := True) (σ1 := c_laws_FnApart_4 cs ms) (q_laws_FnApart_S3 cs ms ?_) (fun _ => ?_)
  · exact T.ok_ob (ad_loop0 d c6) fun _ => T.ok_go True.intro
  refine cut_stepK (H := True) (σ1 := c_laws_FnApart_5 cs ms) (q_laws_FnApart_S4 cs ms ?_) (fun _ => ?_)
  · have e1 : aSum cs ms (aN ms) = accN (fun i s => fadd .f64 s (fconv .f32 .f64 ((taS (aX cs ms) (aP ms) (aS ms) (aR ms)).2.getD i 0))) (aP ms) 0 := by
      unfold aSum
      rw [accN_cut (f := fun i s => fadd .f64 s (fconv .f32 .f64 ((aE cs ms).getD i 0))) _ hp.2.1]
      refine accN_congr fun i s hi => ?_
      rw [d.ea (by omega), Nat.mod_eq_of_lt hi]
    have e2 : aTold cs ms (aN ms) = accN (fun i s => fadd .f64 s (fconv .f32 .f64 ((seasonM (aX cs ms) (aP ms)).getD i 0))) (aP ms) 0 := by
      unfold aTold
      rw [accN_cut (f := fun i s => fadd .f64 s (fconv .f32 .f64 ((aL cs ms).getD i 0))) _ hp.2.1]; rfl
    obtain ⟨u1, u2⟩ := sum_small (f := fun i => (taS (aX cs ms) (aP ms) (aS ms) (aR ms)).2.getD i 0) ⟨hp.1, hp.2.2⟩ (fun i hi => by
      obtain ⟨p, q, r⟩ := sb.bd i hi
      exact ⟨p, by grind, by grind⟩) z1 z2
    obtain ⟨v1, v2⟩ := sum_small (f := fun i => (seasonM (aX cs ms) (aP ms)).getD i 0) ⟨hp.1, hp.2.2⟩ (fun i hi => by
      obtain ⟨p, q, r⟩ := ab.bd i hi
      exact ⟨p, by grind, by grind⟩) y1 y2
    rw [← e1] at u1 u2
    rw [← e2] at v1 v2
    rw [u2, v2]
    exact T.ok_ob u1 fun _ => T.ok_ob (c6 _ _) fun _ => T.ok_ifalse (T.ok_ob v1 fun _ => T.ok_ob (c6 _ _) fun _ => T.ok_ifalse (T.ok_go True.intro))
  refine cut_stepK (H := True) (σ1 := c_laws_FnApart_6 cs ms) (q_laws_FnApart_S5 cs ms ?_) (fun _ => ?_)
  · have b2 := c2 ms 44 ((aN ms - 1 : Nat) : Int) (by omega) hm
    rw [d.wN, d.w1]
    exact T.ok_ob b2 fun _ => T.ok_ob (c2 _ _ _ (by omega) hm) fun _ => T.ok_ob True.intro fun _ => T.ok_ob True.intro fun _ => T.ok_ob (ad_loop2 d) fun _ => T.ok_go True.intro
  refine cut_last (q_laws_FnApart_S6 cs ms ?_)
  have lf : (aF ms (aN ms)).length = aN ms := tab_len _ _
  have a7 := c7 (aF ms (aN ms)) (by omega)
  rw [f1, if_pos rfl, if_pos rfl, f2] at a7
  have e : flt .f64 (r8G (aH ms) (aB ms)) 4562254508917369340 = true := r8G_less f3 sb1 (by show sv (stepBy _) = _; rw [f4]; grind)
  rw [d.wN, d.w1, d.wA, beq_self_eq_true]
  refine T.ok_ob a7 fun _ => T.ok_itrue (T.ok_itrue (T.ok_ob (c6 _ _) fun _ => T.ok_endL ?_))
  show AV.b (flt .f64 (r8G (aH ms) (aB ms)) _) = _
  rw [e]

end Go.Proofs.LV
