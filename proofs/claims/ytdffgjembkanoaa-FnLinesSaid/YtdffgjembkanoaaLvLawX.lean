/- The law FnLines. -/
import Derived.Test.YtdffgjembkanoaaLvLawW
import Derived.Test.YtdffgjembkanoaaLvFnF
import Derived.Test.YtdffgjembkanoaaLvFnGX
import Derived.Test.YtdffgjembkanoaaLvFnV
import Derived.Test.YtdffgjembkanoaaLvCutX
import Derived.Test.YtdffgjembkanoaaLvFit
namespace Go.Proofs.LV
open Go Ieee
set_option linter.unusedVariables false
set_option linter.unusedSimpArgs false

-- FN laws_b10Gap
/-- laws.b10Gap: slots 14, results [.t 4]; calls []; names [(a, 0), (b, 1), (a, 2), (b, 3)] -/
def ps_laws_b10Gap : List Nat := [0, 1, 4, 7]
def b_laws_b10Gap : VCode :=
  (.seq
   (.region false [
    ⟨some 4, .mv, [.k (.f .f64 0)], none⟩])
   (.seq
    (.seq
     (.region false [
      ⟨some 5, .mv, [.t 0], none⟩,
      ⟨some 6, .mv, [.t 1], none⟩,
      ⟨some 7, (.bin .lss), [.t 5, .t 6], none⟩])
     (.cond (.t 7)
      (.seq
       (.region false [
        ⟨some 8, .mv, [.t 1], none⟩,
        ⟨some 9, .mv, [.t 0], none⟩,
        ⟨some 10, (.bin .sub), [.t 8, .t 9], none⟩,
        ⟨some 4, .mv, [.t 10], none⟩])
       .ret)
      .skip))
    (.seq
     (.region false [
      ⟨some 11, .mv, [.t 0], none⟩,
      ⟨some 12, .mv, [.t 1], none⟩,
      ⟨some 13, (.bin .sub), [.t 11, .t 12], none⟩,
      ⟨some 4, .mv, [.t 13], none⟩])
     .ret)))

abbrev Is_laws_b10Gap (P : Program) (g_f : FuncId) : Prop := FnIs P g_f 14 [.t 4] (b_laws_b10Gap)

abbrev C_laws_b10Gap (P : Program) (g_f : FuncId) : Prop := ∀ (a : Nat) (b : Nat), VCall P g_f [.f .f64 a, .f .f64 b] (.f .f64 (gapD a b))
def oc1_laws_b10Gap (as : List AV) : T AV := match as with | [.f .f64 a, .f .f64 b] => .leaf (.f .f64 (gapD a b)) | _ => .fail



theorem q_laws_b10Gap {P : Program} {g_f : FuncId} (h_ : Is_laws_b10Gap P g_f) (a : Nat) (b : Nat) (ht : T.ok (fun x_ => x_ = .f .f64 (gapD a b)) (
      T.ite (flt FloatKind.f64 a b) (T.leaf (AV.f FloatKind.f64 (fsub FloatKind.f64 b a))) (T.leaf (AV.f FloatKind.f64 (fsub FloatKind.f64 a b))))) :
    VCall P g_f [.f .f64 a, .f .f64 b] (.f .f64 (gapD a b)) := h_.call_of ps_laws_b10Gap ⟨fun _ _ => .fail, fun _ _ => none⟩ (by kernel_rfl) ht

-- END laws_b10Gap

def liN (ms : List Int) : Nat := (3 + btM ms 0 20).toNat
def liB (ms : List Int) : Nat := fdiv .f32 (fofi .f32 (IntKind.wrap .i64 (btM ms 1 33 - 16))) 1082130432
def liS (ms : List Int) : Nat := fdiv .f32 (fofi .f32 (IntKind.wrap .i64 (btM ms 2 33 - 16))) 1090519040
def liF (ms : List Int) (i : Nat) : Nat := fadd .f32 (liB ms) (fmul .f32 (liS ms) (fofi .f32 i))
def liL (ms : List Int) : List Nat := tab (liN ms) (liF ms)
def liP (ms : List Int) : List Nat := tab (liN ms) fun i => fofi .f32 i
def liO (ms : List Int) : List Nat := tab (liN ms) fun _ => 1056964608
def liY (cs ms : List Int) : List Nat := s3L cs 0 0 (3 + btM ms 0 20)
def liE (cs ms : List Int) : Nat := lfBase (liY cs ms)
def liG (cs ms : List Int) : Nat := lfSlope (liY cs ms)
def liD (cs ms : List Int) (i : Nat) : Nat := fsub .f64 (fsub .f64 (fconv .f32 .f64 ((liY cs ms).getD i 0)) (fconv .f32 .f64 (liE cs ms))) (fmul .f64 (fconv .f32 .f64 (liG cs ms)) (fofi .f64 i))
def liLeft (cs ms : List Int) (n : Nat) : Nat := accN (fun i s => fadd .f64 s (liD cs ms i)) n 0
def liTurn (cs ms : List Int) (n : Nat) : Nat := accN (fun i s => fadd .f64 s (fmul .f64 (liD cs ms i) (fofi .f64 i))) n 0

-- FN laws_FnLines
/-- laws.FnLines: slots 227, results [.t 4]; calls [33:g_laws_b10Long, 35:g_laws_b10At, 38:g_laws_b10At, 43:g_laws_b10At, 74:g_impl_LineFit, 82:g_impl_WeightFit, 88:g_impl_MiddleSlope, 93:g_spec_B10List, 96:g_impl_LineFit, 104:g_impl_WeightFit, 131:g_laws_b10Gap, 139:g_laws_b10Gap, 147:g_laws_b10Gap, 155:g_laws_b10Gap, 163:g_laws_b10Gap, 171:g_laws_b10Gap, 179:g_laws_b10Gap, 212:g_laws_b10Gap, 219:g_laws_b10Gap]; names [(code, 0), (more, 1), (code, 2), (more, 3), (n, 5), (base, 6), (slope, 7), (line, 8), (places, 9), (ones, 10), (i, 11), (a, 12), (b, 13), (one, 14), (c, 15), (d, 16), (two, 17), (m, 18), (three, 19), (list, 20), (e, 21), (f, 22), (four, 23), (g, 24), (h, 25), (five, 26), (left, 27), (turned, 28), (i, 29), (d, 30)] -/
def ps_laws_FnLines : List Nat := [0, 1, 4, 5, 6, 7, 8, 9, 10, 11, 12, 13, 14, 15, 16, 17, 18, 19, 20, 21, 22, 23, 24, 25, 26, 27, 28, 29, 30, 33, 52, 181, 183, 184, 185]
def lv_laws_FnLines_L0 : List Nat := [0, 5, 6, 7, 8, 9, 10, 11]
def lv_laws_FnLines_L2 : List Nat := [5, 20, 21, 22, 27, 28, 183, 184]
def b_laws_FnLines_L0 (g_laws_b10Long g_laws_b10At g_impl_LineFit g_impl_WeightFit g_impl_MiddleSlope g_spec_B10List g_laws_b10Gap : FuncId) : VCode :=
  (.seq
   (.seq
    (.region false [
     ⟨some 50, .mv, [.t 11], none⟩,
     ⟨some 51, .mv, [.t 5], none⟩,
     ⟨some 52, (.bin .lss), [.t 50, .t 51], none⟩])
    (.cond (.t 52)
     .skip
     (.exit 0)))
   (.seq
    (.block 1
     (.seq
      (.region false [
       ⟨some 55, .mv, [.t 8], none⟩,
       ⟨some 56, .mv, [.t 6], none⟩,
       ⟨some 57, .mv, [.t 7], none⟩,
       ⟨some 58, .mv, [.t 11], none⟩,
       ⟨some 59, (.convF .f32), [.t 58], none⟩,
       ⟨some 60, (.bin .mul), [.t 57, .t 59], none⟩,
       ⟨some 61, (.bin .add), [.t 56, .t 60], none⟩,
       ⟨some 62, (.lit true (.f .f32 [])), [.t 61], none⟩,
       ⟨some 63, .app, [.t 55, .t 62], none⟩,
       ⟨some 8, .mv, [.t 63], none⟩])
      (.seq
       (.region false [
        ⟨some 64, .mv, [.t 9], none⟩,
        ⟨some 65, .mv, [.t 11], none⟩,
        ⟨some 66, (.convF .f32), [.t 65], none⟩,
        ⟨some 67, (.lit true (.f .f32 [])), [.t 66], none⟩,
        ⟨some 68, .app, [.t 64, .t 67], none⟩,
        ⟨some 9, .mv, [.t 68], none⟩])
       (.region false [
        ⟨some 69, .mv, [.t 10], none⟩,
        ⟨some 70, (.lit true (.f .f32 [])), [.k (.f .f32 1056964608)], none⟩,
        ⟨some 71, .app, [.t 69, .t 70], none⟩,
        ⟨some 10, .mv, [.t 71], none⟩]))))
    (.region false [
     ⟨some 53, .mv, [.t 11], none⟩,
     ⟨some 54, (.bin .add), [.t 53, .k (.i .i64 1)], none⟩,
     ⟨some 11, .mv, [.t 54], none⟩])))

def b_laws_FnLines_L2 (g_laws_b10Long g_laws_b10At g_impl_LineFit g_impl_WeightFit g_impl_MiddleSlope g_spec_B10List g_laws_b10Gap : FuncId) : VCode :=
  (.seq
   (.region false [
    ⟨some 185, (.bin .lss), [.t 184, .t 183], none⟩])
   (.seq
    (.cond (.t 185)
     .skip
     (.exit 2))
    (.seq
     (.block 3
      (.seq
       (.region false [
        ⟨some 186, .mv, [.t 184], none⟩,
        ⟨some 29, .mv, [.t 186], none⟩])
       (.seq
        (.region false [
         ⟨some 187, .mv, [.t 20], none⟩,
         ⟨some 188, .mv, [.t 29], none⟩,
         ⟨some 189, .iaddr, [.t 187, .t 188], none⟩,
         ⟨some 190, .load, [.t 189], none⟩,
         ⟨some 191, (.convF .f64), [.t 190], none⟩,
         ⟨some 192, .mv, [.t 21], none⟩,
         ⟨some 193, (.convF .f64), [.t 192], none⟩,
         ⟨some 194, (.bin .sub), [.t 191, .t 193], none⟩,
         ⟨some 195, .mv, [.t 22], none⟩,
         ⟨some 196, (.convF .f64), [.t 195], none⟩,
         ⟨some 197, .mv, [.t 29], none⟩,
         ⟨some 198, (.convF .f64), [.t 197], none⟩,
         ⟨some 199, (.bin .mul), [.t 196, .t 198], none⟩,
         ⟨some 200, (.bin .sub), [.t 194, .t 199], none⟩,
         ⟨some 30, .mv, [.t 200], none⟩])
        (.seq
         (.region false [
          ⟨some 201, .mv, [.t 27], none⟩,
          ⟨some 202, .mv, [.t 30], none⟩,
          ⟨some 203, (.bin .add), [.t 201, .t 202], none⟩,
          ⟨some 27, .mv, [.t 203], none⟩])
         (.region false [
          ⟨some 204, .mv, [.t 28], none⟩,
          ⟨some 205, .mv, [.t 30], none⟩,
          ⟨some 206, .mv, [.t 29], none⟩,
          ⟨some 207, (.convF .f64), [.t 206], none⟩,
          ⟨some 208, (.bin .mul), [.t 205, .t 207], none⟩,
          ⟨some 209, (.bin .add), [.t 204, .t 208], none⟩,
          ⟨some 28, .mv, [.t 209], none⟩])))))
     (.region false [
      ⟨some 210, (.bin .add), [.t 184, .k (.i .i64 1)], none⟩,
      ⟨some 184, .mv, [.t 210], none⟩]))))

def b_laws_FnLines (g_laws_b10Long g_laws_b10At g_impl_LineFit g_impl_WeightFit g_impl_MiddleSlope g_spec_B10List g_laws_b10Gap : FuncId) : VCode :=
  (.seq
   (.region false [
    ⟨some 4, .mv, [.k (.b false)], none⟩])
   (.seq
    (.seq
     (.region false [
      ⟨some 31, .mv, [.t 0], none⟩,
      ⟨some 32, .mv, [.t 1], none⟩,
      ⟨some 33, (.call g_laws_b10Long), [.t 31, .t 32], none⟩])
     (.cond (.t 33)
      (.seq
       (.region false [
        ⟨some 4, .mv, [.k (.b true)], none⟩])
       .ret)
      .skip))
    (.seq
     (.region false [
      ⟨some 34, .mv, [.t 1], none⟩,
      ⟨some 35, (.call g_laws_b10At), [.t 34, .k (.i .i64 0), .k (.i .i64 20)], none⟩,
      ⟨some 36, (.bin .add), [.k (.i .i64 3), .t 35], none⟩,
      ⟨some 5, .mv, [.t 36], none⟩])
     (.seq
      (.region false [
       ⟨some 37, .mv, [.t 1], none⟩,
       ⟨some 38, (.call g_laws_b10At), [.t 37, .k (.i .i64 1), .k (.i .i64 33)], none⟩,
       ⟨some 39, (.bin .sub), [.t 38, .k (.i .i64 16)], none⟩,
       ⟨some 40, (.convF .f32), [.t 39], none⟩,
       ⟨some 41, (.bin .quo), [.t 40, .k (.f .f32 1082130432)], none⟩,
       ⟨some 6, .mv, [.t 41], none⟩])
      (.seq
       (.region false [
        ⟨some 42, .mv, [.t 1], none⟩,
        ⟨some 43, (.call g_laws_b10At), [.t 42, .k (.i .i64 2), .k (.i .i64 33)], none⟩,
        ⟨some 44, (.bin .sub), [.t 43, .k (.i .i64 16)], none⟩,
        ⟨some 45, (.convF .f32), [.t 44], none⟩,
        ⟨some 46, (.bin .quo), [.t 45, .k (.f .f32 1090519040)], none⟩,
        ⟨some 7, .mv, [.t 46], none⟩])
       (.seq
        (.region false [
         ⟨some 47, (.lit true (.f .f32 [])), [], none⟩,
         ⟨some 8, .mv, [.t 47], none⟩])
        (.seq
         (.region false [
          ⟨some 48, (.lit true (.f .f32 [])), [], none⟩,
          ⟨some 9, .mv, [.t 48], none⟩])
         (.seq
          (.region false [
           ⟨some 49, (.lit true (.f .f32 [])), [], none⟩,
           ⟨some 10, .mv, [.t 49], none⟩])
          (.seq
           (.seq
            (.region false [
             ⟨some 11, .mv, [.k (.i .i64 0)], none⟩])
            (.block 0 (.loop (b_laws_FnLines_L0 g_laws_b10Long g_laws_b10At g_impl_LineFit g_impl_WeightFit g_impl_MiddleSlope g_spec_B10List g_laws_b10Gap))))
           (.seq
            (.region false [
             ⟨some 73, .mv, [.t 8], none⟩,
             ⟨some 74, (.call g_impl_LineFit), [.t 73], none⟩,
             ⟨some 72, .mv, [.t 74], none⟩,
             ⟨some 75, (.extract 0), [.t 72], none⟩,
             ⟨some 76, (.extract 1), [.t 72], none⟩,
             ⟨some 77, (.extract 2), [.t 72], none⟩,
             ⟨some 12, .mv, [.t 75], none⟩,
             ⟨some 13, .mv, [.t 76], none⟩,
             ⟨some 14, .mv, [.t 77], none⟩])
            (.seq
             (.region false [
              ⟨some 79, .mv, [.t 9], none⟩,
              ⟨some 80, .mv, [.t 8], none⟩,
              ⟨some 81, .mv, [.t 10], none⟩,
              ⟨some 82, (.call g_impl_WeightFit), [.t 79, .t 80, .t 81], none⟩,
              ⟨some 78, .mv, [.t 82], none⟩,
              ⟨some 83, (.extract 0), [.t 78], none⟩,
              ⟨some 84, (.extract 1), [.t 78], none⟩,
              ⟨some 85, (.extract 2), [.t 78], none⟩,
              ⟨some 15, .mv, [.t 83], none⟩,
              ⟨some 16, .mv, [.t 84], none⟩,
              ⟨some 17, .mv, [.t 85], none⟩])
             (.seq
              (.region false [
               ⟨some 87, .mv, [.t 8], none⟩,
               ⟨some 88, (.call g_impl_MiddleSlope), [.t 87], none⟩,
               ⟨some 86, .mv, [.t 88], none⟩,
               ⟨some 89, (.extract 0), [.t 86], none⟩,
               ⟨some 90, (.extract 1), [.t 86], none⟩,
               ⟨some 18, .mv, [.t 89], none⟩,
               ⟨some 19, .mv, [.t 90], none⟩])
              (.seq
               (.region false [
                ⟨some 91, .mv, [.t 0], none⟩,
                ⟨some 92, .mv, [.t 5], none⟩,
                ⟨some 93, (.call g_spec_B10List), [.t 91, .t 92], none⟩,
                ⟨some 20, .mv, [.t 93], none⟩])
               (.seq
                (.region false [
                 ⟨some 95, .mv, [.t 20], none⟩,
                 ⟨some 96, (.call g_impl_LineFit), [.t 95], none⟩,
                 ⟨some 94, .mv, [.t 96], none⟩,
                 ⟨some 97, (.extract 0), [.t 94], none⟩,
                 ⟨some 98, (.extract 1), [.t 94], none⟩,
                 ⟨some 99, (.extract 2), [.t 94], none⟩,
                 ⟨some 21, .mv, [.t 97], none⟩,
                 ⟨some 22, .mv, [.t 98], none⟩,
                 ⟨some 23, .mv, [.t 99], none⟩])
                (.seq
                 (.region false [
                  ⟨some 101, .mv, [.t 9], none⟩,
                  ⟨some 102, .mv, [.t 20], none⟩,
                  ⟨some 103, .mv, [.t 10], none⟩,
                  ⟨some 104, (.call g_impl_WeightFit), [.t 101, .t 102, .t 103], none⟩,
                  ⟨some 100, .mv, [.t 104], none⟩,
                  ⟨some 105, (.extract 0), [.t 100], none⟩,
                  ⟨some 106, (.extract 1), [.t 100], none⟩,
                  ⟨some 107, (.extract 2), [.t 100], none⟩,
                  ⟨some 24, .mv, [.t 105], none⟩,
                  ⟨some 25, .mv, [.t 106], none⟩,
                  ⟨some 26, .mv, [.t 107], none⟩])
                 (.seq
                  (.seq
                   (.region false [
                    ⟨some 108, .mv, [.t 14], none⟩,
                    ⟨some 109, .not, [.t 108], none⟩,
                    ⟨some 110, .mv, [.t 109], none⟩,
                    ⟨some 111, .mv, [.t 17], some (110, false)⟩,
                    ⟨some 112, .not, [.t 111], some (110, false)⟩,
                    ⟨some 113, .pick, [.t 110, .k (.b true), .t 112], none⟩,
                    ⟨some 114, .mv, [.t 113], none⟩,
                    ⟨some 115, .mv, [.t 19], some (114, false)⟩,
                    ⟨some 116, .not, [.t 115], some (114, false)⟩,
                    ⟨some 117, .pick, [.t 114, .k (.b true), .t 116], none⟩,
                    ⟨some 118, .mv, [.t 117], none⟩,
                    ⟨some 119, .mv, [.t 23], some (118, false)⟩,
                    ⟨some 120, .not, [.t 119], some (118, false)⟩,
                    ⟨some 121, .pick, [.t 118, .k (.b true), .t 120], none⟩,
                    ⟨some 122, .mv, [.t 121], none⟩,
                    ⟨some 123, .mv, [.t 26], some (122, false)⟩,
                    ⟨some 124, .not, [.t 123], some (122, false)⟩,
                    ⟨some 125, .pick, [.t 122, .k (.b true), .t 124], none⟩,
                    ⟨some 126, .mv, [.t 125], none⟩,
                    ⟨some 127, .mv, [.t 12], some (126, false)⟩,
                    ⟨some 128, (.convF .f64), [.t 127], some (126, false)⟩,
                    ⟨some 129, .mv, [.t 6], some (126, false)⟩,
                    ⟨some 130, (.convF .f64), [.t 129], some (126, false)⟩,
                    ⟨some 131, (.call g_laws_b10Gap), [.t 128, .t 130], some (126, false)⟩,
                    ⟨some 132, (.bin .gtr), [.t 131, .k (.f .f64 4576918229304087675)], some (126, false)⟩,
                    ⟨some 133, .pick, [.t 126, .k (.b true), .t 132], none⟩,
                    ⟨some 134, .mv, [.t 133], none⟩,
                    ⟨some 135, .mv, [.t 13], some (134, false)⟩,
                    ⟨some 136, (.convF .f64), [.t 135], some (134, false)⟩,
                    ⟨some 137, .mv, [.t 7], some (134, false)⟩,
                    ⟨some 138, (.convF .f64), [.t 137], some (134, false)⟩,
                    ⟨some 139, (.call g_laws_b10Gap), [.t 136, .t 138], some (134, false)⟩,
                    ⟨some 140, (.bin .gtr), [.t 139, .k (.f .f64 4562254508917369340)], some (134, false)⟩,
                    ⟨some 141, .pick, [.t 134, .k (.b true), .t 140], none⟩,
                    ⟨some 142, .mv, [.t 141], none⟩,
                    ⟨some 143, .mv, [.t 15], some (142, false)⟩,
                    ⟨some 144, (.convF .f64), [.t 143], some (142, false)⟩,
                    ⟨some 145, .mv, [.t 6], some (142, false)⟩,
                    ⟨some 146, (.convF .f64), [.t 145], some (142, false)⟩,
                    ⟨some 147, (.call g_laws_b10Gap), [.t 144, .t 146], some (142, false)⟩,
                    ⟨some 148, (.bin .gtr), [.t 147, .k (.f .f64 4576918229304087675)], some (142, false)⟩,
                    ⟨some 149, .pick, [.t 142, .k (.b true), .t 148], none⟩,
                    ⟨some 150, .mv, [.t 149], none⟩,
                    ⟨some 151, .mv, [.t 16], some (150, false)⟩,
                    ⟨some 152, (.convF .f64), [.t 151], some (150, false)⟩,
                    ⟨some 153, .mv, [.t 7], some (150, false)⟩,
                    ⟨some 154, (.convF .f64), [.t 153], some (150, false)⟩,
                    ⟨some 155, (.call g_laws_b10Gap), [.t 152, .t 154], some (150, false)⟩,
                    ⟨some 156, (.bin .gtr), [.t 155, .k (.f .f64 4562254508917369340)], some (150, false)⟩,
                    ⟨some 157, .pick, [.t 150, .k (.b true), .t 156], none⟩,
                    ⟨some 158, .mv, [.t 157], none⟩,
                    ⟨some 159, .mv, [.t 18], some (158, false)⟩,
                    ⟨some 160, (.convF .f64), [.t 159], some (158, false)⟩,
                    ⟨some 161, .mv, [.t 7], some (158, false)⟩,
                    ⟨some 162, (.convF .f64), [.t 161], some (158, false)⟩,
                    ⟨some 163, (.call g_laws_b10Gap), [.t 160, .t 162], some (158, false)⟩,
                    ⟨some 164, (.bin .gtr), [.t 163, .k (.f .f64 4562254508917369340)], some (158, false)⟩,
                    ⟨some 165, .pick, [.t 158, .k (.b true), .t 164], none⟩,
                    ⟨some 166, .mv, [.t 165], none⟩,
                    ⟨some 167, .mv, [.t 21], some (166, false)⟩,
                    ⟨some 168, (.convF .f64), [.t 167], some (166, false)⟩,
                    ⟨some 169, .mv, [.t 24], some (166, false)⟩,
                    ⟨some 170, (.convF .f64), [.t 169], some (166, false)⟩,
                    ⟨some 171, (.call g_laws_b10Gap), [.t 168, .t 170], some (166, false)⟩,
                    ⟨some 172, (.bin .gtr), [.t 171, .k (.f .f64 4576918229304087675)], some (166, false)⟩,
                    ⟨some 173, .pick, [.t 166, .k (.b true), .t 172], none⟩,
                    ⟨some 174, .mv, [.t 173], none⟩,
                    ⟨some 175, .mv, [.t 22], some (174, false)⟩,
                    ⟨some 176, (.convF .f64), [.t 175], some (174, false)⟩,
                    ⟨some 177, .mv, [.t 25], some (174, false)⟩,
                    ⟨some 178, (.convF .f64), [.t 177], some (174, false)⟩,
                    ⟨some 179, (.call g_laws_b10Gap), [.t 176, .t 178], some (174, false)⟩,
                    ⟨some 180, (.bin .gtr), [.t 179, .k (.f .f64 4562254508917369340)], some (174, false)⟩,
                    ⟨some 181, .pick, [.t 174, .k (.b true), .t 180], none⟩])
                   (.cond (.t 181)
                    (.seq
                     (.region false [
                      ⟨some 4, .mv, [.k (.b false)], none⟩])
                     .ret)
                    .skip))
                  (.seq
                   (.region false [
                    ⟨some 27, .mv, [.k (.f .f64 0)], none⟩])
                   (.seq
                    (.region false [
                     ⟨some 28, .mv, [.k (.f .f64 0)], none⟩])
                    (.seq
                     (.seq
                      (.region false [
                       ⟨some 182, .mv, [.t 20], none⟩,
                       ⟨some 183, .len, [.t 182], none⟩,
                       ⟨some 184, .mv, [.k (.i .i64 0)], none⟩])
                      (.block 2 (.loop (b_laws_FnLines_L2 g_laws_b10Long g_laws_b10At g_impl_LineFit g_impl_WeightFit g_impl_MiddleSlope g_spec_B10List g_laws_b10Gap))))
                     (.seq
                      (.region false [
                       ⟨some 211, .mv, [.t 27], none⟩,
                       ⟨some 212, (.call g_laws_b10Gap), [.t 211, .k (.f .f64 0)], none⟩,
                       ⟨some 213, .mv, [.t 5], none⟩,
                       ⟨some 214, (.convF .f64), [.t 213], none⟩,
                       ⟨some 215, (.bin .mul), [.k (.f .f64 4576918229304087675), .t 214], none⟩,
                       ⟨some 216, (.bin .lss), [.t 212, .t 215], none⟩,
                       ⟨some 217, .mv, [.t 216], none⟩,
                       ⟨some 218, .mv, [.t 28], some (217, true)⟩,
                       ⟨some 219, (.call g_laws_b10Gap), [.t 218, .k (.f .f64 0)], some (217, true)⟩,
                       ⟨some 220, .mv, [.t 5], some (217, true)⟩,
                       ⟨some 221, .mv, [.t 5], some (217, true)⟩,
                       ⟨some 222, (.bin .mul), [.t 220, .t 221], some (217, true)⟩,
                       ⟨some 223, (.convF .f64), [.t 222], some (217, true)⟩,
                       ⟨some 224, (.bin .mul), [.k (.f .f64 4587366580439587226), .t 223], some (217, true)⟩,
                       ⟨some 225, (.bin .lss), [.t 219, .t 224], some (217, true)⟩,
                       ⟨some 226, .pick, [.t 217, .t 225, .k (.b false)], none⟩,
                       ⟨some 4, .mv, [.t 226], none⟩])
                      .ret))))))))))))))))))))

abbrev Is_laws_FnLines (P : Program) (g_f : FuncId) (g_laws_b10Long g_laws_b10At g_impl_LineFit g_impl_WeightFit g_impl_MiddleSlope g_spec_B10List g_laws_b10Gap : FuncId) : Prop := FnIs P g_f 227 [.t 4] (b_laws_FnLines g_laws_b10Long g_laws_b10At g_impl_LineFit g_impl_WeightFit g_impl_MiddleSlope g_spec_B10List g_laws_b10Gap)

abbrev C_laws_FnLines (P : Program) (g_f : FuncId) : Prop := ∀ (cs : List Int) (ms : List Int), VCall P g_f [PU [0] cs, PU [1] ms] (.b true)
def oc1_laws_FnLines (as : List AV) : T AV := match as with | [.sl _ _ (.i _ cs), .sl _ _ (.i _ ms)] => .leaf (.b true) | _ => .fail
def oc_laws_FnLines (cs : List Int) (ms : List Int) (d : Nat) (as : List AV) : T AV := match d with | 33 => oc1_laws_b10Long as | 35 => oc1_laws_b10At as | 38 => oc1_laws_b10At as | 43 => oc1_laws_b10At as | 74 => .leaf (.tup [.f .f32 (lfBase (liL ms)), .f .f32 (lfSlope (liL ms)), .b true]) | 82 => .leaf (.tup [.f .f32 (wfBase (liP ms) (liL ms) (liO ms)), .f .f32 (wfSlope (liP ms) (liL ms) (liO ms)), .b true]) | 88 => .leaf (.tup [.f .f32 (msV (liL ms)), .b true]) | 93 => .leaf (OS 0 .f32 (liY cs ms)) | 96 => .leaf (.tup [.f .f32 (liE cs ms), .f .f32 (liG cs ms), .b true]) | 104 => .leaf (.tup [.f .f32 (wfBase (liP ms) (liY cs ms) (liO ms)), .f .f32 (wfSlope (liP ms) (liY cs ms) (liO ms)), .b true]) | 131 => oc1_laws_b10Gap as | 139 => oc1_laws_b10Gap as | 147 => oc1_laws_b10Gap as | 155 => oc1_laws_b10Gap as | 163 => oc1_laws_b10Gap as | 171 => oc1_laws_b10Gap as | 179 => oc1_laws_b10Gap as | 212 => oc1_laws_b10Gap as | 219 => oc1_laws_b10Gap as | _ => .fail
def c_laws_FnLines_1 (cs : List Int) (ms : List Int) : Env := [AV.sl (Tag.par [0]) 0 (Cont.i IntKind.u8 cs), AV.sl (Tag.par [1]) 0 (Cont.i IntKind.u8 ms), .any, .any, AV.b false] ++ anys 222
def h_laws_FnLines_L0 (cs : List Int) (ms : List Int) (line : List Nat) (places : List Nat) (ones : List Nat) (i : Int) : Env := [AV.sl (Tag.par [0]) 0 (Cont.i IntKind.u8 cs)] ++ anys 4 ++ [AV.i IntKind.i64 (IntKind.wrap IntKind.i64 (3 + btM ms 0 20)), AV.f FloatKind.f32 (fdiv FloatKind.f32 (fofi FloatKind.f32 (IntKind.wrap IntKind.i64 (btM ms 1 33 - 16))) 1082130432), AV.f FloatKind.f32 (fdiv FloatKind.f32 (fofi FloatKind.f32 (IntKind.wrap IntKind.i64 (btM ms 2 33 - 16))) 1090519040), .sl (Tag.own 376) 0 (.f FloatKind.f32 line), .sl (Tag.own 384) 0 (.f FloatKind.f32 places), .sl (Tag.own 392) 0 (.f FloatKind.f32 ones), .i IntKind.i64 i] ++ anys 215
def c_laws_FnLines_2 (cs : List Int) (ms : List Int) : Env := [AV.sl (Tag.par [0]) 0 (Cont.i IntKind.u8 cs)] ++ anys 4 ++ [AV.i IntKind.i64 (IntKind.wrap IntKind.i64 (3 + btM ms 0 20)), AV.f FloatKind.f32 (fdiv FloatKind.f32 (fofi FloatKind.f32 (IntKind.wrap IntKind.i64 (btM ms 1 33 - 16))) 1082130432), AV.f FloatKind.f32 (fdiv FloatKind.f32 (fofi FloatKind.f32 (IntKind.wrap IntKind.i64 (btM ms 2 33 - 16))) 1090519040), AV.sl (Tag.own 376) 0 (Cont.f FloatKind.f32 (liL ms)), AV.sl (Tag.own 384) 0 (Cont.f FloatKind.f32 (liP ms)), AV.sl (Tag.own 392) 0 (Cont.f FloatKind.f32 (liO ms)), AV.i IntKind.i64 (↑(liN ms) : Int)] ++ anys 215
def c_laws_FnLines_3 (cs : List Int) (ms : List Int) : Env := [AV.sl (Tag.par [0]) 0 (Cont.i IntKind.u8 cs)] ++ anys 4 ++ [AV.i IntKind.i64 (IntKind.wrap IntKind.i64 (3 + btM ms 0 20)), AV.f FloatKind.f32 (fdiv FloatKind.f32 (fofi FloatKind.f32 (IntKind.wrap IntKind.i64 (btM ms 1 33 - 16))) 1082130432), AV.f FloatKind.f32 (fdiv FloatKind.f32 (fofi FloatKind.f32 (IntKind.wrap IntKind.i64 (btM ms 2 33 - 16))) 1090519040), AV.sl (Tag.own 376) 0 (Cont.f FloatKind.f32 (liL ms)), AV.sl (Tag.own 384) 0 (Cont.f FloatKind.f32 (liP ms)), AV.sl (Tag.own 392) 0 (Cont.f FloatKind.f32 (liO ms)), AV.i IntKind.i64 (↑(liN ms) : Int), AV.f FloatKind.f32 (lfBase (liL ms)), AV.f FloatKind.f32 (lfSlope (liL ms)), AV.b true, AV.f FloatKind.f32 (wfBase (liP ms) (liL ms) (liO ms)), AV.f FloatKind.f32 (wfSlope (liP ms) (liL ms) (liO ms)), AV.b true, AV.f FloatKind.f32 (msV (liL ms)), AV.b true, AV.sl (Tag.own 744) 0 (Cont.f FloatKind.f32 (liY cs ms)), AV.f FloatKind.f32 (liE cs ms), AV.f FloatKind.f32 (liG cs ms), AV.b true, AV.f FloatKind.f32 (wfBase (liP ms) (liY cs ms) (liO ms)), AV.f FloatKind.f32 (wfSlope (liP ms) (liY cs ms) (liO ms)), AV.b true] ++ anys 200
def c_laws_FnLines_4 (cs : List Int) (ms : List Int) : Env := [AV.sl (Tag.par [0]) 0 (Cont.i IntKind.u8 cs)] ++ anys 4 ++ [AV.i IntKind.i64 (IntKind.wrap IntKind.i64 (3 + btM ms 0 20)), AV.f FloatKind.f32 (fdiv FloatKind.f32 (fofi FloatKind.f32 (IntKind.wrap IntKind.i64 (btM ms 1 33 - 16))) 1082130432), AV.f FloatKind.f32 (fdiv FloatKind.f32 (fofi FloatKind.f32 (IntKind.wrap IntKind.i64 (btM ms 2 33 - 16))) 1090519040), AV.sl (Tag.own 376) 0 (Cont.f FloatKind.f32 (liL ms)), AV.sl (Tag.own 384) 0 (Cont.f FloatKind.f32 (liP ms)), AV.sl (Tag.own 392) 0 (Cont.f FloatKind.f32 (liO ms)), AV.i IntKind.i64 (↑(liN ms) : Int), AV.f FloatKind.f32 (lfBase (liL ms)), AV.f FloatKind.f32 (lfSlope (liL ms)), AV.b true, AV.f FloatKind.f32 (wfBase (liP ms) (liL ms) (liO ms)), AV.f FloatKind.f32 (wfSlope (liP ms) (liL ms) (liO ms)), AV.b true, AV.f FloatKind.f32 (msV (liL ms)), AV.b true, AV.sl (Tag.own 744) 0 (Cont.f FloatKind.f32 (liY cs ms)), AV.f FloatKind.f32 (liE cs ms), AV.f FloatKind.f32 (liG cs ms), AV.b true, AV.f FloatKind.f32 (wfBase (liP ms) (liY cs ms) (liO ms)), AV.f FloatKind.f32 (wfSlope (liP ms) (liY cs ms) (liO ms)), AV.b true] ++ anys 200
def h_laws_FnLines_L2 (cs : List Int) (ms : List Int) (left : Nat) (turned : Nat) (v184 : Int) : Env := anys 5 ++ [AV.i IntKind.i64 (IntKind.wrap IntKind.i64 (3 + btM ms 0 20))] ++ anys 14 ++ [AV.sl (Tag.own 744) 0 (Cont.f FloatKind.f32 (liY cs ms)), AV.f FloatKind.f32 (liE cs ms), AV.f FloatKind.f32 (liG cs ms)] ++ anys 4 ++ [.f FloatKind.f64 left, .f FloatKind.f64 turned] ++ anys 154 ++ [AV.i IntKind.i64 (↑(List.length (liY cs ms)) : Int), .i IntKind.i64 v184] ++ anys 42

theorem q_laws_FnLines_L0 {VC : FuncId → List AV → AV → Prop} {g_laws_b10Long g_laws_b10At g_impl_LineFit g_impl_WeightFit g_impl_MiddleSlope g_spec_B10List g_laws_b10Gap : FuncId} (cs : List Int) (ms : List Int) (line : List Nat) (places : List Nat) (ones : List Nat) (i : Int) {e_ : Ex} {σ_ : Env} (ht : T.ok (fun x_ => x_ = (e_, σ_)) (
      T.ite (decide (i < IntKind.wrap IntKind.i64 (3 + btM ms 0 20)))
        (T.ob True
          (T.ob
            (List.length line +
                List.length
                  [fadd FloatKind.f32 (fdiv FloatKind.f32 (fofi FloatKind.f32 (IntKind.wrap IntKind.i64 (btM ms 1 33 - 16))) 1082130432)
                      (fmul FloatKind.f32 (fdiv FloatKind.f32 (fofi FloatKind.f32 (IntKind.wrap IntKind.i64 (btM ms 2 33 - 16))) 1090519040) (fofi FloatKind.f32 i))] ≤
              4294967296)
            (T.ob True
              (T.ob (List.length places + List.length [fofi FloatKind.f32 i] ≤ 4294967296)
                (T.ob (List.length ones + 1 ≤ 4294967296)
                  (T.leaf
                    (Ex.normal,
                      h_laws_FnLines_L0 cs ms
                        (line ++
                          [fadd FloatKind.f32 (fdiv FloatKind.f32 (fofi FloatKind.f32 (IntKind.wrap IntKind.i64 (btM ms 1 33 - 16))) 1082130432)
                              (fmul FloatKind.f32 (fdiv FloatKind.f32 (fofi FloatKind.f32 (IntKind.wrap IntKind.i64 (btM ms 2 33 - 16))) 1090519040) (fofi FloatKind.f32 i))])
                        (places ++ [fofi FloatKind.f32 i]) (ones ++ [1056964608]) (IntKind.wrap IntKind.i64 (i + 1)))))))))
        (T.leaf (Ex.exit 0, h_laws_FnLines_L0 cs ms line places ones i)))) :
    Exec VC ps_laws_FnLines (b_laws_FnLines_L0 g_laws_b10Long g_laws_b10At g_impl_LineFit g_impl_WeightFit g_impl_MiddleSlope g_spec_B10List g_laws_b10Gap) (h_laws_FnLines_L0 cs ms line places ones i) e_ σ_ := evL_of (lv := lv_laws_FnLines_L0) (rs := [4]) (O := ⟨oc_laws_FnLines cs ms, fun _ _ => none⟩) (by kernel_rfl) ht

theorem q_laws_FnLines_L2 {VC : FuncId → List AV → AV → Prop} {g_laws_b10Long g_laws_b10At g_impl_LineFit g_impl_WeightFit g_impl_MiddleSlope g_spec_B10List g_laws_b10Gap : FuncId} (cs : List Int) (ms : List Int) (left : Nat) (turned : Nat) (v184 : Int) {e_ : Ex} {σ_ : Env} (ht : T.ok (fun x_ => x_ = (e_, σ_)) (
      T.ite (decide (v184 < (↑(List.length (liY cs ms)) : Int)))
        (T.ob (0 ≤ v184 ∧ v184 < (↑(List.length (liY cs ms)) : Int))
          (T.ob (fconvOk FloatKind.f32 FloatKind.f64 (List.getD (liY cs ms) (Int.toNat v184) 0) = true)
            (T.ob (fconvOk FloatKind.f32 FloatKind.f64 (liE cs ms) = true)
              (T.ob (fconvOk FloatKind.f32 FloatKind.f64 (liG cs ms) = true)
                (T.ob True
                  (T.ob True
                    (T.leaf
                      (Ex.normal,
                        h_laws_FnLines_L2 cs ms
                          (fadd FloatKind.f64 left
                            (fsub FloatKind.f64 (fsub FloatKind.f64 (fconv FloatKind.f32 FloatKind.f64 (List.getD (liY cs ms) (Int.toNat v184) 0)) (fconv FloatKind.f32 FloatKind.f64 (liE cs ms)))
                              (fmul FloatKind.f64 (fconv FloatKind.f32 FloatKind.f64 (liG cs ms)) (fofi FloatKind.f64 v184))))
                          (fadd FloatKind.f64 turned
                            (fmul FloatKind.f64
                              (fsub FloatKind.f64 (fsub FloatKind.f64 (fconv FloatKind.f32 FloatKind.f64 (List.getD (liY cs ms) (Int.toNat v184) 0)) (fconv FloatKind.f32 FloatKind.f64 (liE cs ms)))
                                (fmul FloatKind.f64 (fconv FloatKind.f32 FloatKind.f64 (liG cs ms)) (fofi FloatKind.f64 v184)))
                              (fofi FloatKind.f64 v184)))
                          (IntKind.wrap IntKind.i64 (v184 + 1))))))))))
        (T.leaf (Ex.exit 2, h_laws_FnLines_L2 cs ms left turned v184)))) :
    Exec VC ps_laws_FnLines (b_laws_FnLines_L2 g_laws_b10Long g_laws_b10At g_impl_LineFit g_impl_WeightFit g_impl_MiddleSlope g_spec_B10List g_laws_b10Gap) (h_laws_FnLines_L2 cs ms left turned v184) e_ σ_ := evL_of (lv := lv_laws_FnLines_L2) (rs := [4]) (O := ⟨oc_laws_FnLines cs ms, fun _ _ => none⟩) (by kernel_rfl) ht

set_option maxHeartbeats 4000000 in
theorem q_laws_FnLines_S0 {VC : FuncId → List AV → AV → Prop} {g_laws_b10Long g_laws_b10At g_impl_LineFit g_impl_WeightFit g_impl_MiddleSlope g_spec_B10List g_laws_b10Gap : FuncId} (cs : List Int) (ms : List Int) {Q_ : Option AV × Env → Prop} (ht : T.ok Q_ (
      T.ob (VC g_laws_b10Long [AV.sl (Tag.par [0]) 0 (Cont.i IntKind.u8 cs), AV.sl (Tag.par [1]) 0 (Cont.i IntKind.u8 ms)] (AV.b (decide ((↑(List.length cs) : Int) > 1048576) || decide ((↑(List.length ms) : Int) > 1048576))))
        (T.ite (decide ((↑(List.length cs) : Int) > 1048576) || decide ((↑(List.length ms) : Int) > 1048576)) (T.leaf (some (AV.b true), [])) (T.leaf (none, c_laws_FnLines_1 cs ms))))) :
    T.ok Q_ (evS VC ps_laws_FnLines [.t 4] (.b true) ⟨oc_laws_FnLines cs ms, fun id σ => match id with | 0 => some (lv_laws_FnLines_L0, .leaf (.normal, h_laws_FnLines_L0 cs ms (liL ms) (liP ms) (liO ms) (liN ms))) | 2 => some (lv_laws_FnLines_L2, .leaf (.normal, h_laws_FnLines_L2 cs ms (liLeft cs ms (liN ms)) (liTurn cs ms (liN ms)) (liN ms))) | _ => none⟩ (front 2 (b_laws_FnLines g_laws_b10Long g_laws_b10At g_impl_LineFit g_impl_WeightFit g_impl_MiddleSlope g_spec_B10List g_laws_b10Gap)) (startEnv 227 [PU [0] cs, PU [1] ms])) := evS_of (by kernel_rfl) ht

set_option maxHeartbeats 4000000 in
theorem q_laws_FnLines_S1 {VC : FuncId → List AV → AV → Prop} {g_laws_b10Long g_laws_b10At g_impl_LineFit g_impl_WeightFit g_impl_MiddleSlope g_spec_B10List g_laws_b10Gap : FuncId} (cs : List Int) (ms : List Int) {Q_ : Option AV × Env → Prop} (ht : T.ok Q_ (
      T.ob (VC g_laws_b10At [AV.sl (Tag.par [0]) 0 (Cont.i IntKind.u8 ms), AV.i IntKind.i64 0, AV.i IntKind.i64 20] (AV.i IntKind.i64 (btM ms 0 20)))
        (T.ob (VC g_laws_b10At [AV.sl (Tag.par [0]) 0 (Cont.i IntKind.u8 ms), AV.i IntKind.i64 1, AV.i IntKind.i64 33] (AV.i IntKind.i64 (btM ms 1 33)))
          (T.ob True
            (T.ob True
              (T.ob (VC g_laws_b10At [AV.sl (Tag.par [0]) 0 (Cont.i IntKind.u8 ms), AV.i IntKind.i64 2, AV.i IntKind.i64 33] (AV.i IntKind.i64 (btM ms 2 33)))
                (T.ob True
                  (T.ob True
                    (T.ob
                      (Exec VC ps_laws_FnLines (VCode.block 0 (VCode.loop (b_laws_FnLines_L0 g_laws_b10Long g_laws_b10At g_impl_LineFit g_impl_WeightFit g_impl_MiddleSlope g_spec_B10List g_laws_b10Gap)))
                        (h_laws_FnLines_L0 cs ms [] [] [] 0) Ex.normal (c_laws_FnLines_2 cs ms))
                      (T.leaf (none, c_laws_FnLines_2 cs ms))))))))))) :
    T.ok Q_ (evS VC ps_laws_FnLines [.t 4] (.b true) ⟨oc_laws_FnLines cs ms, fun id σ => match id with | 0 => some (lv_laws_FnLines_L0, .leaf (.normal, h_laws_FnLines_L0 cs ms (liL ms) (liP ms) (liO ms) (liN ms))) | 2 => some (lv_laws_FnLines_L2, .leaf (.normal, h_laws_FnLines_L2 cs ms (liLeft cs ms (liN ms)) (liTurn cs ms (liN ms)) (liN ms))) | _ => none⟩ (front 7 (rest 2 (b_laws_FnLines g_laws_b10Long g_laws_b10At g_impl_LineFit g_impl_WeightFit g_impl_MiddleSlope g_spec_B10List g_laws_b10Gap))) (c_laws_FnLines_1 cs ms)) := evS_of (by kernel_rfl) ht

set_option maxHeartbeats 4000000 in
theorem q_laws_FnLines_S2 {VC : FuncId → List AV → AV → Prop} {g_laws_b10Long g_laws_b10At g_impl_LineFit g_impl_WeightFit g_impl_MiddleSlope g_spec_B10List g_laws_b10Gap : FuncId} (cs : List Int) (ms : List Int) {Q_ : Option AV × Env → Prop} (ht : T.ok Q_ (
      T.ob (VC g_impl_LineFit [AV.sl (Tag.par [0]) 0 (Cont.f FloatKind.f32 (liL ms))] (AV.tup [AV.f FloatKind.f32 (lfBase (liL ms)), AV.f FloatKind.f32 (lfSlope (liL ms)), AV.b true]))
        (T.ob
          (VC g_impl_WeightFit [AV.sl (Tag.par [0]) 0 (Cont.f FloatKind.f32 (liP ms)), AV.sl (Tag.par [1]) 0 (Cont.f FloatKind.f32 (liL ms)), AV.sl (Tag.par [2]) 0 (Cont.f FloatKind.f32 (liO ms))]
            (AV.tup [AV.f FloatKind.f32 (wfBase (liP ms) (liL ms) (liO ms)), AV.f FloatKind.f32 (wfSlope (liP ms) (liL ms) (liO ms)), AV.b true]))
          (T.ob (VC g_impl_MiddleSlope [AV.sl (Tag.par [0]) 0 (Cont.f FloatKind.f32 (liL ms))] (AV.tup [AV.f FloatKind.f32 (msV (liL ms)), AV.b true]))
            (T.ob (VC g_spec_B10List [AV.sl (Tag.par [0]) 0 (Cont.i IntKind.u8 cs), AV.i IntKind.i64 (IntKind.wrap IntKind.i64 (3 + btM ms 0 20))] (AV.sl (Tag.own 0) 0 (Cont.f FloatKind.f32 (liY cs ms))))
              (T.ob (VC g_impl_LineFit [AV.sl (Tag.par [0]) 0 (Cont.f FloatKind.f32 (liY cs ms))] (AV.tup [AV.f FloatKind.f32 (liE cs ms), AV.f FloatKind.f32 (liG cs ms), AV.b true]))
                (T.ob
                  (VC g_impl_WeightFit [AV.sl (Tag.par [0]) 0 (Cont.f FloatKind.f32 (liP ms)), AV.sl (Tag.par [1]) 0 (Cont.f FloatKind.f32 (liY cs ms)), AV.sl (Tag.par [2]) 0 (Cont.f FloatKind.f32 (liO ms))]
                    (AV.tup [AV.f FloatKind.f32 (wfBase (liP ms) (liY cs ms) (liO ms)), AV.f FloatKind.f32 (wfSlope (liP ms) (liY cs ms) (liO ms)), AV.b true]))
                  (T.leaf (none, c_laws_FnLines_3 cs ms))))))))) :
    T.ok Q_ (evS VC ps_laws_FnLines [.t 4] (.b true) ⟨oc_laws_FnLines cs ms, fun id σ => match id with | 0 => some (lv_laws_FnLines_L0, .leaf (.normal, h_laws_FnLines_L0 cs ms (liL ms) (liP ms) (liO ms) (liN ms))) | 2 => some (lv_laws_FnLines_L2, .leaf (.normal, h_laws_FnLines_L2 cs ms (liLeft cs ms (liN ms)) (liTurn cs ms (liN ms)) (liN ms))) | _ => none⟩ (front 6 (rest 7 (rest 2 (b_laws_FnLines g_laws_b10Long g_laws_b10At g_impl_LineFit g_impl_WeightFit g_impl_MiddleSlope g_spec_B10List g_laws_b10Gap)))) (c_laws_FnLines_2 cs ms)) := evS_of (by kernel_rfl) ht

set_option maxHeartbeats 4000000 in
theorem q_laws_FnLines_S3 {VC : FuncId → List AV → AV → Prop} {g_laws_b10Long g_laws_b10At g_impl_LineFit g_impl_WeightFit g_impl_MiddleSlope g_spec_B10List g_laws_b10Gap : FuncId} (cs : List Int) (ms : List Int) {Q_ : Option AV × Env → Prop} (ht : T.ok Q_ (
      T.ite false (T.leaf (some (AV.b false), []))
        (T.ite false (T.leaf (some (AV.b false), []))
          (T.ite false (T.leaf (some (AV.b false), []))
            (T.ite false (T.leaf (some (AV.b false), []))
              (T.ite false (T.leaf (some (AV.b false), []))
                (T.ob (fconvOk FloatKind.f32 FloatKind.f64 (lfBase (liL ms)) = true)
                  (T.ob (fconvOk FloatKind.f32 FloatKind.f64 (fdiv FloatKind.f32 (fofi FloatKind.f32 (IntKind.wrap IntKind.i64 (btM ms 1 33 - 16))) 1082130432) = true)
                    (T.ob
                      (VC g_laws_b10Gap
                        [AV.f FloatKind.f64 (fconv FloatKind.f32 FloatKind.f64 (lfBase (liL ms))),
                          AV.f FloatKind.f64 (fconv FloatKind.f32 FloatKind.f64 (fdiv FloatKind.f32 (fofi FloatKind.f32 (IntKind.wrap IntKind.i64 (btM ms 1 33 - 16))) 1082130432))]
                        (AV.f FloatKind.f64
                          (gapD (fconv FloatKind.f32 FloatKind.f64 (lfBase (liL ms))) (fconv FloatKind.f32 FloatKind.f64 (fdiv FloatKind.f32 (fofi FloatKind.f32 (IntKind.wrap IntKind.i64 (btM ms 1 33 - 16))) 1082130432)))))
                      (T.ite
                        (fgt FloatKind.f64
                          (gapD (fconv FloatKind.f32 FloatKind.f64 (lfBase (liL ms))) (fconv FloatKind.f32 FloatKind.f64 (fdiv FloatKind.f32 (fofi FloatKind.f32 (IntKind.wrap IntKind.i64 (btM ms 1 33 - 16))) 1082130432)))
                          4576918229304087675)
                        (T.leaf (some (AV.b false), []))
                        (T.ob (fconvOk FloatKind.f32 FloatKind.f64 (lfSlope (liL ms)) = true)
                          (T.ob (fconvOk FloatKind.f32 FloatKind.f64 (fdiv FloatKind.f32 (fofi FloatKind.f32 (IntKind.wrap IntKind.i64 (btM ms 2 33 - 16))) 1090519040) = true)
                            (T.ob
                              (VC g_laws_b10Gap
                                [AV.f FloatKind.f64 (fconv FloatKind.f32 FloatKind.f64 (lfSlope (liL ms))),
                                  AV.f FloatKind.f64 (fconv FloatKind.f32 FloatKind.f64 (fdiv FloatKind.f32 (fofi FloatKind.f32 (IntKind.wrap IntKind.i64 (btM ms 2 33 - 16))) 1090519040))]
                                (AV.f FloatKind.f64
                                  (gapD (fconv FloatKind.f32 FloatKind.f64 (lfSlope (liL ms)))
                                    (fconv FloatKind.f32 FloatKind.f64 (fdiv FloatKind.f32 (fofi FloatKind.f32 (IntKind.wrap IntKind.i64 (btM ms 2 33 - 16))) 1090519040)))))
                              (T.ite
                                (fgt FloatKind.f64
                                  (gapD (fconv FloatKind.f32 FloatKind.f64 (lfSlope (liL ms)))
                                    (fconv FloatKind.f32 FloatKind.f64 (fdiv FloatKind.f32 (fofi FloatKind.f32 (IntKind.wrap IntKind.i64 (btM ms 2 33 - 16))) 1090519040)))
                                  4562254508917369340)
                                (T.leaf (some (AV.b false), []))
                                (T.ob (fconvOk FloatKind.f32 FloatKind.f64 (wfBase (liP ms) (liL ms) (liO ms)) = true)
                                  (T.ob (fconvOk FloatKind.f32 FloatKind.f64 (fdiv FloatKind.f32 (fofi FloatKind.f32 (IntKind.wrap IntKind.i64 (btM ms 1 33 - 16))) 1082130432) = true)
                                    (T.ob
                                      (VC g_laws_b10Gap
                                        [AV.f FloatKind.f64 (fconv FloatKind.f32 FloatKind.f64 (wfBase (liP ms) (liL ms) (liO ms))),
                                          AV.f FloatKind.f64 (fconv FloatKind.f32 FloatKind.f64 (fdiv FloatKind.f32 (fofi FloatKind.f32 (IntKind.wrap IntKind.i64 (btM ms 1 33 - 16))) 1082130432))]
                                        (AV.f FloatKind.f64
                                          (gapD (fconv FloatKind.f32 FloatKind.f64 (wfBase (liP ms) (liL ms) (liO ms)))
                                            (fconv FloatKind.f32 FloatKind.f64 (fdiv FloatKind.f32 (fofi FloatKind.f32 (IntKind.wrap IntKind.i64 (btM ms 1 33 - 16))) 1082130432)))))
                                      (T.ite
                                        (fgt FloatKind.f64
                                          (gapD (fconv FloatKind.f32 FloatKind.f64 (wfBase (liP ms) (liL ms) (liO ms)))
                                            (fconv FloatKind.f32 FloatKind.f64 (fdiv FloatKind.f32 (fofi FloatKind.f32 (IntKind.wrap IntKind.i64 (btM ms 1 33 - 16))) 1082130432)))
                                          4576918229304087675)
                                        (T.leaf (some (AV.b false), []))
                                        (T.ob (fconvOk FloatKind.f32 FloatKind.f64 (wfSlope (liP ms) (liL ms) (liO ms)) = true)
                                          (T.ob (fconvOk FloatKind.f32 FloatKind.f64 (fdiv FloatKind.f32 (fofi FloatKind.f32 (IntKind.wrap IntKind.i64 (btM ms 2 33 - 16))) 1090519040) = true)
                                            (T.ob
                                              (VC g_laws_b10Gap
                                                [AV.f FloatKind.f64 (fconv FloatKind.f32 FloatKind.f64 (wfSlope (liP ms) (liL ms) (liO ms))),
                                                  AV.f FloatKind.f64 (fconv FloatKind.f32 FloatKind.f64 (fdiv FloatKind.f32 (fofi FloatKind.f32 (IntKind.wrap IntKind.i64 (btM ms 2 33 - 16))) 1090519040))]
                                                (AV.f FloatKind.f64
                                                  (gapD (fconv FloatKind.f32 FloatKind.f64 (wfSlope (liP ms) (liL ms) (liO ms)))
                                                    (fconv FloatKind.f32 FloatKind.f64 (fdiv FloatKind.f32 (fofi FloatKind.f32 (IntKind.wrap IntKind.i64 (btM ms 2 33 - 16))) 1090519040)))))
                                              (T.ite
                                                (fgt FloatKind.f64
                                                  (gapD (fconv FloatKind.f32 FloatKind.f64 (wfSlope (liP ms) (liL ms) (liO ms)))
                                                    (fconv FloatKind.f32 FloatKind.f64 (fdiv FloatKind.f32 (fofi FloatKind.f32 (IntKind.wrap IntKind.i64 (btM ms 2 33 - 16))) 1090519040)))
                                                  4562254508917369340)
                                                (T.leaf (some (AV.b false), []))
                                                (T.ob (fconvOk FloatKind.f32 FloatKind.f64 (msV (liL ms)) = true)
                                                  (T.ob (fconvOk FloatKind.f32 FloatKind.f64 (fdiv FloatKind.f32 (fofi FloatKind.f32 (IntKind.wrap IntKind.i64 (btM ms 2 33 - 16))) 1090519040) = true)
                                                    (T.ob
                                                      (VC g_laws_b10Gap
                                                        [AV.f FloatKind.f64 (fconv FloatKind.f32 FloatKind.f64 (msV (liL ms))),
                                                          AV.f FloatKind.f64 (fconv FloatKind.f32 FloatKind.f64 (fdiv FloatKind.f32 (fofi FloatKind.f32 (IntKind.wrap IntKind.i64 (btM ms 2 33 - 16))) 1090519040))]
                                                        (AV.f FloatKind.f64
                                                          (gapD (fconv FloatKind.f32 FloatKind.f64 (msV (liL ms)))
                                                            (fconv FloatKind.f32 FloatKind.f64 (fdiv FloatKind.f32 (fofi FloatKind.f32 (IntKind.wrap IntKind.i64 (btM ms 2 33 - 16))) 1090519040)))))
                                                      (T.ite
                                                        (fgt FloatKind.f64
                                                          (gapD (fconv FloatKind.f32 FloatKind.f64 (msV (liL ms)))
                                                            (fconv FloatKind.f32 FloatKind.f64 (fdiv FloatKind.f32 (fofi FloatKind.f32 (IntKind.wrap IntKind.i64 (btM ms 2 33 - 16))) 1090519040)))
                                                          4562254508917369340)
                                                        (T.leaf (some (AV.b false), []))
                                                        (T.ob (fconvOk FloatKind.f32 FloatKind.f64 (liE cs ms) = true)
                                                          (T.ob (fconvOk FloatKind.f32 FloatKind.f64 (wfBase (liP ms) (liY cs ms) (liO ms)) = true)
                                                            (T.ob
                                                              (VC g_laws_b10Gap
                                                                [AV.f FloatKind.f64 (fconv FloatKind.f32 FloatKind.f64 (liE cs ms)),
                                                                  AV.f FloatKind.f64 (fconv FloatKind.f32 FloatKind.f64 (wfBase (liP ms) (liY cs ms) (liO ms)))]
                                                                (AV.f FloatKind.f64 (gapD (fconv FloatKind.f32 FloatKind.f64 (liE cs ms)) (fconv FloatKind.f32 FloatKind.f64 (wfBase (liP ms) (liY cs ms) (liO ms))))))
                                                              (T.ite
                                                                (fgt FloatKind.f64 (gapD (fconv FloatKind.f32 FloatKind.f64 (liE cs ms)) (fconv FloatKind.f32 FloatKind.f64 (wfBase (liP ms) (liY cs ms) (liO ms))))
                                                                  4576918229304087675)
                                                                (T.leaf (some (AV.b false), []))
                                                                (T.ob (fconvOk FloatKind.f32 FloatKind.f64 (liG cs ms) = true)
                                                                  (T.ob (fconvOk FloatKind.f32 FloatKind.f64 (wfSlope (liP ms) (liY cs ms) (liO ms)) = true)
                                                                    (T.ob
                                                                      (VC g_laws_b10Gap
                                                                        [AV.f FloatKind.f64 (fconv FloatKind.f32 FloatKind.f64 (liG cs ms)),
                                                                          AV.f FloatKind.f64 (fconv FloatKind.f32 FloatKind.f64 (wfSlope (liP ms) (liY cs ms) (liO ms)))]
                                                                        (AV.f FloatKind.f64 (gapD (fconv FloatKind.f32 FloatKind.f64 (liG cs ms)) (fconv FloatKind.f32 FloatKind.f64 (wfSlope (liP ms) (liY cs ms) (liO ms))))))
                                                                      (T.ite
                                                                        (fgt FloatKind.f64 (gapD (fconv FloatKind.f32 FloatKind.f64 (liG cs ms)) (fconv FloatKind.f32 FloatKind.f64 (wfSlope (liP ms) (liY cs ms) (liO ms))))
                                                                          4562254508917369340)
                                                                        (T.leaf (some (AV.b false), [])) (T.leaf (none, c_laws_FnLines_3 cs ms)))))))))))))))))))))))))))))))))))) :
    T.ok Q_ (evS VC ps_laws_FnLines [.t 4] (.b true) ⟨oc_laws_FnLines cs ms, fun id σ => match id with | 0 => some (lv_laws_FnLines_L0, .leaf (.normal, h_laws_FnLines_L0 cs ms (liL ms) (liP ms) (liO ms) (liN ms))) | 2 => some (lv_laws_FnLines_L2, .leaf (.normal, h_laws_FnLines_L2 cs ms (liLeft cs ms (liN ms)) (liTurn cs ms (liN ms)) (liN ms))) | _ => none⟩ (front 1 (rest 6 (rest 7 (rest 2 (b_laws_FnLines g_laws_b10Long g_laws_b10At g_impl_LineFit g_impl_WeightFit g_impl_MiddleSlope g_spec_B10List g_laws_b10Gap))))) (c_laws_FnLines_3 cs ms)) := evS_of (by kernel_rfl) ht

set_option maxHeartbeats 4000000 in
theorem q_laws_FnLines_S4 {VC : FuncId → List AV → AV → Prop} {g_laws_b10Long g_laws_b10At g_impl_LineFit g_impl_WeightFit g_impl_MiddleSlope g_spec_B10List g_laws_b10Gap : FuncId} (cs : List Int) (ms : List Int) {Q_ : Option AV × Env → Prop} (ht : T.ok Q_ (
      T.ob
        (Exec VC ps_laws_FnLines (VCode.block 2 (VCode.loop (b_laws_FnLines_L2 g_laws_b10Long g_laws_b10At g_impl_LineFit g_impl_WeightFit g_impl_MiddleSlope g_spec_B10List g_laws_b10Gap))) (h_laws_FnLines_L2 cs ms 0 0 0)
          Ex.normal (h_laws_FnLines_L2 cs ms (liLeft cs ms (liN ms)) (liTurn cs ms (liN ms)) (↑(liN ms) : Int)))
        (T.ob (VC g_laws_b10Gap [AV.f FloatKind.f64 (liLeft cs ms (liN ms)), AV.f FloatKind.f64 0] (AV.f FloatKind.f64 (gapD (liLeft cs ms (liN ms)) 0)))
          (T.ob True
            (T.ite (flt FloatKind.f64 (gapD (liLeft cs ms (liN ms)) 0) (fmul FloatKind.f64 4576918229304087675 (fofi FloatKind.f64 (IntKind.wrap IntKind.i64 (3 + btM ms 0 20)))))
              (T.ob (VC g_laws_b10Gap [AV.f FloatKind.f64 (liTurn cs ms (liN ms)), AV.f FloatKind.f64 0] (AV.f FloatKind.f64 (gapD (liTurn cs ms (liN ms)) 0)))
                (T.ob True
                  (T.leaf
                    (some
                        (AV.b
                          (flt FloatKind.f64 (gapD (liTurn cs ms (liN ms)) 0)
                            (fmul FloatKind.f64 4587366580439587226 (fofi FloatKind.f64 (IntKind.wrap IntKind.i64 (IntKind.wrap IntKind.i64 (3 + btM ms 0 20) * IntKind.wrap IntKind.i64 (3 + btM ms 0 20))))))),
                      []))))
              (T.leaf (some (AV.b false), []))))))) :
    T.ok Q_ (evS VC ps_laws_FnLines [.t 4] (.b true) ⟨oc_laws_FnLines cs ms, fun id σ => match id with | 0 => some (lv_laws_FnLines_L0, .leaf (.normal, h_laws_FnLines_L0 cs ms (liL ms) (liP ms) (liO ms) (liN ms))) | 2 => some (lv_laws_FnLines_L2, .leaf (.normal, h_laws_FnLines_L2 cs ms (liLeft cs ms (liN ms)) (liTurn cs ms (liN ms)) (liN ms))) | _ => none⟩ (rest 1 (rest 6 (rest 7 (rest 2 (b_laws_FnLines g_laws_b10Long g_laws_b10At g_impl_LineFit g_impl_WeightFit g_impl_MiddleSlope g_spec_B10List g_laws_b10Gap))))) (c_laws_FnLines_4 cs ms)) := evS_of (by kernel_rfl) ht

-- END laws_FnLines

/-! ### the line -/
def bQ (ms : List Int) : Rat := ((btM ms 1 33 - 16 : Int) : Rat) / 4
def sQ (ms : List Int) : Rat := ((btM ms 2 33 - 16 : Int) : Rat) / 8
theorem eighth_gr {c : Int} {b : Nat} (h : c.natAbs ≤ b) : Gr (-3) b ((c : Rat) / 8) := ⟨c, by
  have : (2 : Rat) ^ (-3 : Int) = 1 / 8 := zp_neg 3 _ (by decide +kernel)
  rw [this]; grind, h⟩
theorem eight_rv : sf 1090519040 ∧ sv 1090519040 = 8 := by
  have h : sf 1090519040 := by unfold sf fnt; decide +kernel
  exact ⟨h, lit_neg h (m := 2 ^ 23) (n := 20) (by decide +kernel) (by decide +kernel)⟩
theorem li_n {ms : List Int} (hm : Byt ms) : (3 ≤ liN ms ∧ liN ms ≤ 22) ∧ ((liN ms : Nat) : Int) = 3 + btM ms 0 20 := by
  have := bt_le hm (i := 0) (n := 20) (by omega) (by omega)
  unfold liN; omega
theorem li_b {ms : List Int} (hm : Byt ms) : sf (liB ms) ∧ sv (liB ms) = bQ ms ∧ Gr (-2) 16 (sv (liB ms)) := by
  have hb := bt_le hm (i := 1) (n := 33) (by omega) (by omega)
  have hw : IntKind.wrap .i64 (btM ms 1 33 - 16) = btM ms 1 33 - 16 := wrap64_id (by omega) (by omega)
  unfold liB bQ
  rw [hw]
  obtain ⟨f1, f2⟩ := fofi_rv .f32 (n := btM ms 1 33 - 16) (by show (btM ms 1 33 - 16).natAbs < 2 ^ 24; omega)
  have h4 := four_rv
  have hg := quarter_gr (c := btM ms 1 33 - 16) (b := 16) (by omega)
  obtain ⟨a, b⟩ := div_gr .f32 (q := ((btM ms 1 33 - 16 : Int) : Rat) / 4) f1 h4.1 (by show rv single 1082130432 ≠ 0; rw [show rv single 1082130432 = 4 from h4.2]; decide)
    (by show _ * rv single 1082130432 = _; rw [show rv single 1082130432 = 4 from h4.2, f2]; grind) hg (by decide) (by decide) (by decide)
  have b : sv (fdiv .f32 (fofi .f32 (btM ms 1 33 - 16)) 1082130432) = _ := b
  exact ⟨a, b, by rw [b]; exact hg⟩
theorem li_s {ms : List Int} (hm : Byt ms) : sf (liS ms) ∧ sv (liS ms) = sQ ms ∧ Gr (-3) 16 (sQ ms) := by
  have hb := bt_le hm (i := 2) (n := 33) (by omega) (by omega)
  have hw : IntKind.wrap .i64 (btM ms 2 33 - 16) = btM ms 2 33 - 16 := wrap64_id (by omega) (by omega)
  unfold liS sQ
  rw [hw]
  obtain ⟨f1, f2⟩ := fofi_rv .f32 (n := btM ms 2 33 - 16) (by show (btM ms 2 33 - 16).natAbs < 2 ^ 24; omega)
  have h8 := eight_rv
  have hg := eighth_gr (c := btM ms 2 33 - 16) (b := 16) (by omega)
  obtain ⟨a, b⟩ := div_gr .f32 (q := ((btM ms 2 33 - 16 : Int) : Rat) / 8) f1 h8.1 (by show rv single 1090519040 ≠ 0; rw [show rv single 1090519040 = 8 from h8.2]; decide)
    (by show _ * rv single 1090519040 = _; rw [show rv single 1090519040 = 8 from h8.2, f2]; grind) hg (by decide) (by decide) (by decide)
  have b : sv (fdiv .f32 (fofi .f32 (btM ms 2 33 - 16)) 1090519040) = _ := b
  exact ⟨a, b, hg⟩
theorem li_at {ms : List Int} (hm : Byt ms) {i : Nat} (hi : i < 22) : sf (liF ms i) ∧ sv (liF ms i) = bQ ms + sQ ms * i ∧ Gr (-3) 384 (sv (liF ms i)) := by
  obtain ⟨b0, b1, b2⟩ := li_b hm
  obtain ⟨s0, s1, s2⟩ := li_s hm
  obtain ⟨a, b⟩ := fofi_n (n := i) (by omega)
  have gi : Gr 0 22 (sv (fofi .f32 i)) := ⟨(i : Int), by rw [b]; have : (2 : Rat) ^ (0 : Int) = 1 := rfl; rw [this, Rat.mul_one]; rfl, by omega⟩
  obtain ⟨c, d⟩ := mul_gr .f32 (i := -3) (j := 0) (a := 16) (b := 22) s0 a (by show Gr _ _ (sv (liS ms)); rw [s1]; exact s2) gi (by decide) (by decide) (by decide)
  have d : sv (fmul .f32 (liS ms) (fofi .f32 i)) = sv (liS ms) * sv (fofi .f32 i) := d
  have gd : Gr (-3) 352 (sv (fmul .f32 (liS ms) (fofi .f32 i))) := by
    rw [d, s1]
    exact Gr.mul s2 gi
  have gb : Gr (-3) 32 (sv (liB ms)) := Gr.fine b2 1
  obtain ⟨e, f⟩ := add_gr .f32 b0 c gb gd (by decide) (by decide) (by decide)
  have f : sv (liF ms i) = sv (liB ms) + sv (fmul .f32 (liS ms) (fofi .f32 i)) := f
  refine ⟨e, by rw [f, d, b1, s1, b], ?_⟩
  rw [f]; exact gb.add gd
theorem li_sm {ms : List Int} (hm : Byt ms) : Sm (liL ms) (liN ms) := by
  obtain ⟨⟨n1, n2⟩, _⟩ := li_n hm
  refine ⟨tab_len _ _, fun i hi => ?_⟩
  unfold liL
  rw [tab_at _ _ hi]
  obtain ⟨a, b, c⟩ := li_at hm (i := i) (by omega)
  have := gr_bound (B := 48) c (by
    have : (2 : Rat) ^ (-3 : Int) = 1 / 8 := zp_neg 3 _ (by decide +kernel)
    rw [this]; decide +kernel)
  exact ⟨a, by grind, by grind⟩
theorem li_lsq {ms : List Int} (hm : Byt ms) : slQ (liL ms) (liN ms) = sQ ms ∧ baQ (liL ms) (liN ms) = bQ ms := by
  obtain ⟨⟨n1, n2⟩, _⟩ := li_n hm
  obtain ⟨d0, _⟩ := fit_num (liN ms) (by omega) n1
  have n3 : (3 : Rat) ≤ (liN ms : Nat) := nat_le_rat n1
  have hv : ∀ i, i < liN ms → sv ((liL ms).getD i 0) = bQ ms + sQ ms * i := fun i hi => by
    unfold liL; rw [tab_at _ _ hi]; exact (li_at hm (by omega)).2.1
  generalize liN ms = n at *
  have e1 : (sumQ n fun i => uQ n i * sv ((liL ms).getD i 0)) = sQ ms * dQ n := by
    rw [sumQ_congr (g := fun i => (bQ ms + sQ ms * (((n : Rat) - 1) / 2)) * uQ n i + sQ ms * (uQ n i * uQ n i)) n (fun i hi => by rw [hv i hi]; unfold uQ; grind),
      sumQ_add (fun i => (bQ ms + sQ ms * (((n : Rat) - 1) / 2)) * uQ n i) (fun i => sQ ms * (uQ n i * uQ n i)), sumQ_mul, sumQ_mul, u_sum, u_sq]
    grind
  have e2 : avQ (liL ms) n = bQ ms + sQ ms * (((n : Rat) - 1) / 2) := by
    unfold avQ
    rw [sumQ_congr (g := fun i => bQ ms + sQ ms * (i : Rat)) n hv, sumQ_add (fun _ => bQ ms) (fun i => sQ ms * (i : Rat)), sumQ_const, sumQ_mul, sumQ_id]
    grind
  have e3 : slQ (liL ms) n = sQ ms := by unfold slQ; rw [e1]; grind
  exact ⟨e3, by unfold baQ; rw [e2, e3]; grind⟩
/-! ### the middle slope -/
theorem ms_mem (a : List Nat) : ∀ n, n ≤ a.length → ∀ x, x ∈ msList a n → ∃ i k, i < a.length ∧ i + 1 + k < a.length ∧ x = fdiv .f32 (fsub .f32 (a.getD (i + 1 + k) 0) (a.getD i 0)) (fofi .f32 ((k + 1 : Nat) : Int))
  | 0, _, x, hx => by simp [msList] at hx
  | n + 1, hn, x, hx => by
    simp only [msList, List.mem_append] at hx
    rcases hx with hx | hx
    · exact ms_mem a n (by omega) x hx
    · obtain ⟨j, hj, he⟩ := mem_getD hx
      unfold msRow at hj he
      rw [tab_len] at hj
      rw [tab_at _ _ hj] at he
      exact ⟨n, j, by omega, by omega, he.symm⟩
theorem li_ms {ms : List Int} (hm : Byt ms) {x : Nat} (hx : x ∈ msList (liL ms) (liL ms).length) : sf x ∧ sv x = sQ ms := by
  obtain ⟨⟨n1, n2⟩, _⟩ := li_n hm
  obtain ⟨i, k, hi, hk, rfl⟩ := ms_mem _ _ (Nat.le_refl _) x hx
  have hl : (liL ms).length = liN ms := tab_len _ _
  rw [hl] at hi hk
  obtain ⟨s0, s1, s2⟩ := li_s hm
  have e1 : (liL ms).getD (i + 1 + k) 0 = liF ms (i + 1 + k) := tab_at _ _ hk
  have e2 : (liL ms).getD i 0 = liF ms i := tab_at _ _ hi
  rw [e1, e2]
  obtain ⟨a0, a1, a2⟩ := li_at hm (i := i + 1 + k) (by omega)
  obtain ⟨b0, b1, b2⟩ := li_at hm (i := i) (by omega)
  obtain ⟨c, d⟩ := sub_gr .f32 a0 b0 a2 b2 (by decide) (by decide) (by decide)
  have d : sv (fsub .f32 (liF ms (i + 1 + k)) (liF ms i)) = sv (liF ms (i + 1 + k)) - sv (liF ms i) := d
  obtain ⟨f1, f2⟩ := fofi_n (n := k + 1) (by omega)
  have hk0 := nat_rat k
  have e3 : ((i + 1 + k : Nat) : Rat) = (i : Rat) + 1 + k := by rw [Rat.natCast_add, nat_succ]
  obtain ⟨r1, r2⟩ := div_gr .f32 (q := sQ ms) c f1 (by show sv _ ≠ 0; rw [f2, nat_succ]; grind) (by show _ * sv _ = sv _; rw [f2, d, a1, b1, e3, nat_succ]; grind) s2 (by decide) (by decide) (by decide)
  exact ⟨r1, r2⟩
theorem li_msv {ms : List Int} (hm : Byt ms) : slpOk (liL ms) = true ∧ sf (msV (liL ms)) ∧ sv (msV (liL ms)) = sQ ms := by
  obtain ⟨⟨n1, n2⟩, _⟩ := li_n hm
  obtain ⟨hl, hy⟩ := li_sm hm
  have hne : 0 < (msList (liL ms) (liL ms).length).length := by
    obtain ⟨m, hm'⟩ : ∃ m, (liL ms).length = m + 2 := ⟨(liL ms).length - 2, by omega⟩
    rw [hm']
    simp only [msList, List.length_append]
    have : (msRow (liL ms) m ((liL ms).length - (m + 1))).length = 1 := by unfold msRow; rw [tab_len]; omega
    omega
  have hmem : msV (liL ms) ∈ msList (liL ms) (liL ms).length := by
    unfold msV
    exact (same_mem (sortM_same _)).1 (getD_mem (by rw [sort_len]; omega))
  refine ⟨?_, li_ms hm hmem⟩
  unfold slpOk
  rw [series_of (by omega) (by omega) (by rw [hl]; exact fun i hi => (hy i hi).1), finAll_of (fun i hi => (li_ms hm (getD_mem hi)).1)]
  simp; omega
/-! ### gaps that are small -/
theorem gap_c01 {a b : Nat} (ha : sf a) (hb : sf b) (h : Nr (sv a) (sv b) (8 / 1000)) : fgt .f64 (gapD (fconv .f32 .f64 a) (fconv .f32 .f64 b)) 4576918229304087675 = false := by
  obtain ⟨a1, a2⟩ := conv_up ha
  obtain ⟨b1, b2⟩ := conv_up hb
  obtain ⟨g1, g2, g3⟩ := gap_le (G := 8 / 1000) a1 b1 (by rw [a2, b2]; exact h) (by decide +kernel)
  obtain ⟨c1, c2, c3⟩ := c01
  rw [fgt_rv (k := .f64) g1 c1]
  have k : (8 : Rat) / 1000 + 8 / 1000 * e53 + eta ≤ 9 / 1000 := by decide +kernel
  exact decide_eq_false (Rat.not_lt.2 (Rat.le_trans g3 (Rat.le_trans k c2)))
theorem gap_c001 {a b : Nat} (ha : sf a) (hb : sf b) (h : Nr (sv a) (sv b) (8 / 10000)) : fgt .f64 (gapD (fconv .f32 .f64 a) (fconv .f32 .f64 b)) 4562254508917369340 = false := by
  obtain ⟨a1, a2⟩ := conv_up ha
  obtain ⟨b1, b2⟩ := conv_up hb
  obtain ⟨g1, g2, g3⟩ := gap_le (G := 8 / 10000) a1 b1 (by rw [a2, b2]; exact h) (by decide +kernel)
  obtain ⟨c1, c2, c3⟩ := c001
  rw [fgt_rv (k := .f64) g1 c1]
  have k : (8 : Rat) / 10000 + 8 / 10000 * e53 + eta ≤ 9 / 10000 := by decide +kernel
  exact decide_eq_false (Rat.not_lt.2 (Rat.le_trans g3 (Rat.le_trans k c2)))
/-! ### what is left of a list -/
theorem fofi_d {n : Int} (h : n.natAbs < 2 ^ 53) : df (fofi .f64 n) ∧ dv (fofi .f64 n) = n := fofi_rv .f64 (n := n) (by show n.natAbs < 2 ^ 53; exact h)
theorem li_left {xs : List Nat} {n : Nat} (hn : 3 ≤ n ∧ n ≤ 22) (h : Sm xs n) :
    (flt .f64 (gapD (accN (fun i s => fadd .f64 s (fsub .f64 (fsub .f64 (fconv .f32 .f64 (xs.getD i 0)) (fconv .f32 .f64 (lfBase xs))) (fmul .f64 (fconv .f32 .f64 (lfSlope xs)) (fofi .f64 i)))) n 0) 0) (fmul .f64 4576918229304087675 (fofi .f64 n))) = true ∧
    (flt .f64 (gapD (accN (fun i s => fadd .f64 s (fmul .f64 (fsub .f64 (fsub .f64 (fconv .f32 .f64 (xs.getD i 0)) (fconv .f32 .f64 (lfBase xs))) (fmul .f64 (fconv .f32 .f64 (lfSlope xs)) (fofi .f64 i))) (fofi .f64 i))) n 0) 0) (fmul .f64 4587366580439587226 (fofi .f64 ((n * n : Nat) : Int)))) = true := by
  obtain ⟨d0, _⟩ := fit_num n (by omega) hn.1
  have n22 : (n : Rat) ≤ 22 := nat_le_rat hn.2
  have n3 : (3 : Rat) ≤ n := nat_le_rat hn.1
  have e53p : (0 : Rat) ≤ e53 := by decide +kernel
  have hav := av_le hn h
  obtain ⟨s0, s1, s2, b0, b1⟩ := lf_near hn h
  obtain ⟨hl, hy⟩ := h
  have hbq : baQ xs n = avQ xs n - slQ xs n * (((n : Rat) - 1) / 2) := rfl
  have hT : slQ xs n * dQ n = sumQ n fun i => uQ n i * sv (xs.getD i 0) := by unfold slQ; grind
  have hA : avQ xs n * n = sumQ n fun i => sv (xs.getD i 0) := by unfold avQ; grind
  generalize lfSlope xs = f at *
  generalize lfBase xs = e at *
  generalize slQ xs n = F at *
  generalize avQ xs n = A at *
  generalize baQ xs n = E at *
  have mid : 0 ≤ ((n : Rat) - 1) / 2 ∧ ((n : Rat) - 1) / 2 ≤ 21 / 2 := ⟨by grind, by grind⟩
  generalize hH : ((n : Rat) - 1) / 2 = H at *
  have q1 := Rat.mul_le_mul_of_nonneg_right s2.1 mid.1
  have q2 := Rat.mul_le_mul_of_nonneg_right s2.2 mid.1
  have hE : -1100 ≤ E ∧ E ≤ 1100 := by constructor <;> grind
  obtain ⟨cf1, cf2⟩ := conv_up s0
  obtain ⟨ce1, ce2⟩ := conv_up b0
  have fb : -97 ≤ sv f ∧ sv f ≤ 97 := by obtain ⟨x, y⟩ := s1; constructor <;> grind
  have eb : -1101 ≤ sv e ∧ sv e ≤ 1101 := by obtain ⟨x, y⟩ := b1; constructor <;> grind
  -- one term
  have term : ∀ i, i < n → df (fsub .f64 (fsub .f64 (fconv .f32 .f64 (xs.getD i 0)) (fconv .f32 .f64 e)) (fmul .f64 (fconv .f32 .f64 f) (fofi .f64 i))) ∧
      Nr (dv (fsub .f64 (fsub .f64 (fconv .f32 .f64 (xs.getD i 0)) (fconv .f32 .f64 e)) (fmul .f64 (fconv .f32 .f64 f) (fofi .f64 i)))) (sv (xs.getD i 0) - sv e - sv f * i) (1 / 1000000000) ∧
      -3300 ≤ sv (xs.getD i 0) - sv e - sv f * i ∧ sv (xs.getD i 0) - sv e - sv f * i ≤ 3300 ∧ (df (fofi .f64 i) ∧ dv (fofi .f64 i) = (i : Rat)) ∧ (i : Rat) ≤ 21 := fun i hi => by
    obtain ⟨y0, y1, y2⟩ := hy i hi
    obtain ⟨cy1, cy2⟩ := conv_up y0
    obtain ⟨i1, i2⟩ := fofi_d (n := (i : Int)) (by omega)
    have i2 : dv (fofi .f64 i) = (i : Rat) := i2
    have i0 := nat_rat i
    have i21 : (i : Rat) ≤ 21 := nat_le_rat (show i ≤ 21 by omega)
    have fi1 := Rat.mul_le_mul_of_nonneg_right fb.1 i0
    have fi2 := Rat.mul_le_mul_of_nonneg_right fb.2 i0
    obtain ⟨p0, p1, p2⟩ := d_sub (B := 1200) cy1 ce1 (by rw [cy2, ce2]; grind) (by rw [cy2, ce2]; grind) (by decide)
    obtain ⟨m0, m1, m2⟩ := d_mul (B := 2100) cf1 i1 (by rw [cf2, i2]; grind) (by rw [cf2, i2]; grind) (by decide)
    rw [cy2, ce2] at p1 p2
    rw [cf2, i2] at m1 m2
    have k1 : (1200 : Rat) * e53 + eta ≤ 1 / 10000000000 := by decide +kernel
    have k2 : (2100 : Rat) * e53 + eta ≤ 1 / 10000000000 := by decide +kernel
    have k3 : (3400 : Rat) * e53 + eta ≤ 1 / 10000000000 := by decide +kernel
    obtain ⟨r0, r1, r2⟩ := d_sub (B := 3400) p0 m0 (by grind) (by grind) (by decide)
    exact ⟨r0, ⟨by grind, by grind⟩, by grind, by grind, ⟨i1, i2⟩, i21⟩
  generalize hg : (fun i : Nat => fsub .f64 (fsub .f64 (fconv .f32 .f64 (xs.getD i 0)) (fconv .f32 .f64 e)) (fmul .f64 (fconv .f32 .f64 f) (fofi .f64 i))) = g
  have eg : ∀ i : Nat, fsub .f64 (fsub .f64 (fconv .f32 .f64 (xs.getD i 0)) (fconv .f32 .f64 e)) (fmul .f64 (fconv .f32 .f64 f) (fofi .f64 i)) = g i := fun i => by rw [← hg]
  simp only [eg] at term ⊢
  -- the sums
  have h1 := acc_nearD (g := g) (t := fun i => sv (xs.getD i 0) - sv e - sv f * i) (C := 3300) (E := 1 / 1000000000) (N := 22) (by decide) (by decide +kernel) n n22 (by decide +kernel) (fun i hi => by
    obtain ⟨a, b, c, d, _, _⟩ := term i hi
    exact ⟨a, b, c, d⟩)
  have h2 := acc_nearD (g := fun i => fmul .f64 (g i) (fofi .f64 i)) (t := fun i => (i : Rat) * (sv (xs.getD i 0) - sv e - sv f * i)) (C := 69300) (E := 1 / 10000000) (N := 22) (by decide) (by decide +kernel) n n22 (by decide +kernel) (fun i hi => by
    obtain ⟨a, b, c, d, ⟨i1, i2⟩, i21⟩ := term i hi
    have i0 := nat_rat i
    generalize sv (xs.getD i 0) - sv e - sv f * i = t at *
    have t1 := Rat.mul_le_mul_of_nonneg_left c i0
    have t2 := Rat.mul_le_mul_of_nonneg_left d i0
    obtain ⟨b1, b2⟩ := b
    have t3 := Rat.mul_le_mul_of_nonneg_left b1 i0
    have t4 := Rat.mul_le_mul_of_nonneg_left b2 i0
    obtain ⟨p0, p1, p2⟩ := d_mul (B := 70000) a i1 (by rw [i2]; grind) (by rw [i2]; grind) (by decide)
    rw [i2] at p1 p2
    have k1 : (70000 : Rat) * e53 + eta ≤ 1 / 1000000000 := by decide +kernel
    exact ⟨p0, ⟨by grind, by grind⟩, by grind, by grind⟩)
  have hsum : (sumQ n fun i => sv (xs.getD i 0) - sv e - sv f * i) = (n : Rat) * ((E - sv e) + (F - sv f) * H) := by
    rw [sumQ_sub (fun i => sv (xs.getD i 0) - sv e) (fun i => sv f * i), sumQ_sub (fun i => sv (xs.getD i 0)) (fun _ => sv e), sumQ_const, sumQ_mul, sumQ_id, ← hA, hbq, ← hH]
    grind
  have hturn : (sumQ n fun i => (i : Rat) * (sv (xs.getD i 0) - sv e - sv f * i)) = (F - sv f) * dQ n + H * ((n : Rat) * ((E - sv e) + (F - sv f) * H)) := by
    have e1 : (sumQ n fun i => (i : Rat) * (sv (xs.getD i 0) - sv e - sv f * i)) = sumQ n fun i => uQ n i * sv (xs.getD i 0) - (sv e + sv f * H) * uQ n i - sv f * (uQ n i * uQ n i) + H * (sv (xs.getD i 0) - sv e - sv f * i) :=
      sumQ_congr n (fun i _ => by unfold uQ; rw [← hH]; grind)
    rw [e1, sumQ_add (fun i => uQ n i * sv (xs.getD i 0) - (sv e + sv f * H) * uQ n i - sv f * (uQ n i * uQ n i)) (fun i => H * (sv (xs.getD i 0) - sv e - sv f * i)), sumQ_mul, hsum,
      sumQ_sub (fun i => uQ n i * sv (xs.getD i 0) - (sv e + sv f * H) * uQ n i) (fun i => sv f * (uQ n i * uQ n i)), sumQ_mul,
      sumQ_sub (fun i => uQ n i * sv (xs.getD i 0)) (fun i => (sv e + sv f * H) * uQ n i), sumQ_mul, u_sum, u_sq, ← hT]
    grind
  rw [hsum] at h1
  rw [hturn] at h2
  obtain ⟨a1, a2⟩ := h1
  obtain ⟨g1, g2⟩ := h2
  -- bounds
  have hd : -(6 / 1000) ≤ (E - sv e) + (F - sv f) * H ∧ (E - sv e) + (F - sv f) * H ≤ 6 / 1000 := by
    obtain ⟨x, y⟩ := b1
    obtain ⟨z, w⟩ := s1
    have p := Rat.mul_le_mul_of_nonneg_right z mid.1
    have q := Rat.mul_le_mul_of_nonneg_right w mid.1
    constructor <;> grind
  generalize hX : (E - sv e) + (F - sv f) * H = X at *
  have nn : (0 : Rat) ≤ n := nat_rat n
  have x1 := Rat.mul_le_mul_of_nonneg_left hd.1 nn
  have x2 := Rat.mul_le_mul_of_nonneg_left hd.2 nn
  have n2 : (3 : Rat) * n ≤ n * n := Rat.mul_le_mul_of_nonneg_right n3 nn
  have n4 : (n : Rat) * n ≤ 22 * n := Rat.mul_le_mul_of_nonneg_right n22 nn
  have nn2 : (0 : Rat) ≤ (n : Rat) * n := Rat.mul_nonneg nn nn
  have hdq : dQ n ≤ 2 * ((n : Rat) * n) := by
    have := Rat.mul_le_mul_of_nonneg_right n22 nn2
    unfold dQ; grind
  have y1 : -(1 / 4000 * dQ n) ≤ (F - sv f) * dQ n ∧ (F - sv f) * dQ n ≤ 1 / 4000 * dQ n := by
    obtain ⟨z, w⟩ := s1
    have p := Rat.mul_le_mul_of_nonneg_right z (Rat.le_of_lt d0)
    have q := Rat.mul_le_mul_of_nonneg_right w (Rat.le_of_lt d0)
    constructor <;> grind
  have x3 := Rat.mul_le_mul_of_nonneg_left x1 mid.1
  have x4 := Rat.mul_le_mul_of_nonneg_left x2 mid.1
  have hHn : H * n = ((n : Rat) * n - n) / 2 := by rw [← hH]; grind
  have k1 : (1 : Rat) / 1000000000 + ((3300 + 1 / 1000000000 + 1) * 22 * e53 + eta) ≤ 1 / 100000000 := by decide +kernel
  have k2 : (1 : Rat) / 10000000 + ((69300 + 1 / 10000000 + 1) * 22 * e53 + eta) ≤ 1 / 1000000 := by decide +kernel
  have k3 := Rat.mul_le_mul_of_nonneg_left k1 nn
  have k4 := Rat.mul_le_mul_of_nonneg_left k2 nn
  have k5 : eta ≤ 1 / 1000000 ∧ e53 ≤ 1 / 1000000 := by decide +kernel
  have z0 : dv 0 = 0 := zero_rv _
  obtain ⟨l1, l2, l3⟩ := gap_le (G := n * (7 / 1000)) a1 zero_df (by rw [z0]; obtain ⟨u, v⟩ := a2; exact ⟨by grind, by grind⟩) (by grind)
  obtain ⟨t1, t2, t3⟩ := gap_le (G := n * n * (7 / 1000)) g1 zero_df (by rw [z0]; obtain ⟨u, v⟩ := g2; exact ⟨by grind, by grind⟩) (by grind)
  obtain ⟨c1, c2, c3⟩ := c01
  obtain ⟨v1, v2, v3⟩ := c05
  obtain ⟨o1, o2⟩ := fofi_d (n := (n : Int)) (by omega)
  have o2 : dv (fofi .f64 n) = (n : Rat) := o2
  have hnn : n * n ≤ 22 * 22 := Nat.mul_le_mul hn.2 hn.2
  obtain ⟨w1, w2⟩ := fofi_d (n := ((n * n : Nat) : Int)) (by omega)
  have w2 : dv (fofi .f64 ((n * n : Nat) : Int)) = (n : Rat) * n := by rw [w2]; show ((n * n : Nat) : Rat) = _; exact Rat.natCast_mul n n
  have u1 := Rat.mul_le_mul_of_nonneg_right c2 nn
  have u2 := Rat.mul_le_mul_of_nonneg_right c3 nn
  have u3 := Rat.mul_le_mul_of_nonneg_right v2 nn2
  have u4 := Rat.mul_le_mul_of_nonneg_right v3 nn2
  obtain ⟨r1, r2, r3⟩ := d_mul (B := 100) c1 o1 (by rw [o2]; grind) (by rw [o2]; grind) (by decide)
  obtain ⟨r4, r5, r6⟩ := d_mul (B := 100) v1 w1 (by rw [w2]; grind) (by rw [w2]; grind) (by decide)
  rw [o2] at r2 r3
  rw [w2] at r5 r6
  have k6 : (100 : Rat) * e53 + eta ≤ 1 / 1000000 := by decide +kernel
  have k7 := Rat.mul_le_mul_of_nonneg_left k5.2 nn
  have k8 := Rat.mul_le_mul_of_nonneg_left k5.2 nn2
  constructor
  · rw [flt_rv (k := .f64) l1 r1]
    refine decide_eq_true ?_
    show dv _ < dv _
    grind
  · rw [flt_rv (k := .f64) t1 r4]
    refine decide_eq_true ?_
    show dv _ < dv _
    grind

theorem k_laws_b10Gap {P : Program} {f : FuncId} (h : Is_laws_b10Gap P f) : C_laws_b10Gap P f := by
  intro a b
  refine q_laws_b10Gap h a b ?_
  unfold gapD
  refine T.ok_ite (fun hc => ?_) (fun hc => ?_) <;> simp [T.ok, hc]
theorem li_loop0 {VC : FuncId → List AV → AV → Prop} {g1 g2 g3 g4 g5 g6 g7 : FuncId} (cs ms : List Int) (wN : IntKind.wrap .i64 (3 + btM ms 0 20) = (liN ms : Nat)) (n2 : liN ms ≤ 22) :
    Exec VC ps_laws_FnLines (VCode.block 0 (VCode.loop (b_laws_FnLines_L0 g1 g2 g3 g4 g5 g6 g7))) (h_laws_FnLines_L0 cs ms [] [] [] 0) Ex.normal (c_laws_FnLines_2 cs ms) := by
  refine for_up (e := .exit 0) (liN ms) (fun i => h_laws_FnLines_L0 cs ms (tab i (liF ms)) (tab i fun i => fofi .f32 i) (tab i fun _ => 1056964608) (i : Nat)) (by first | rfl | simp) (fun i hi => ?_) ?_
  · refine q_laws_FnLines_L0 _ _ _ _ _ _ ?_
    rw [wN]
    repeat' (first | with_reducible refine T.ok_ob ?_ (fun _ => ?_) | with_reducible refine T.ok_ite (fun _ => ?_) (fun _ => ?_) | with_reducible refine T.ok_leaf ?_)
    all_goals (try simp only [decide_eq_true_eq, decide_eq_false_iff_not, Bool.not_eq_true', Bool.not_eq_false', Bool.not_eq_eq_eq_not, Bool.not_true, Bool.not_false, Int.toNat_natCast, tab_len, List.length_append, List.length_singleton, List.length_cons, List.length_nil, List.length_drop, List.length_take, getD_drop', getD_nat, reduceCtorEq] at *)
    all_goals (try simp (disch := omega) only [wrap64_id] at *)
    all_goals first | omega | (exfalso; omega) | trivial | contradiction | (exfalso; simp_all; done) | skip
    all_goals (rw [tab_succ, tab_succ, tab_succ]; rfl)
  · refine q_laws_FnLines_L0 _ _ _ _ _ _ ?_
    rw [wN]
    repeat' (first | with_reducible refine T.ok_ob ?_ (fun _ => ?_) | with_reducible refine T.ok_ite (fun _ => ?_) (fun _ => ?_) | with_reducible refine T.ok_leaf ?_)
    all_goals (try simp only [decide_eq_true_eq, decide_eq_false_iff_not, Bool.not_eq_true', Bool.not_eq_false', Bool.not_eq_eq_eq_not, Bool.not_true, Bool.not_false, Int.toNat_natCast, tab_len, List.length_append, List.length_singleton, List.length_cons, List.length_nil, List.length_drop, List.length_take, getD_drop', getD_nat, reduceCtorEq] at *)
    all_goals (try simp (disch := omega) only [wrap64_id] at *)
    all_goals first | omega | (exfalso; omega) | trivial | contradiction | (exfalso; simp_all; done) | skip
    all_goals rfl
theorem li_loop2 {VC : FuncId → List AV → AV → Prop} {g1 g2 g3 g4 g5 g6 g7 : FuncId} (cs ms : List Int) (lY : (liY cs ms).length = liN ms) (n2 : liN ms ≤ 22) :
    Exec VC ps_laws_FnLines (VCode.block 2 (VCode.loop (b_laws_FnLines_L2 g1 g2 g3 g4 g5 g6 g7))) (h_laws_FnLines_L2 cs ms 0 0 0) Ex.normal (h_laws_FnLines_L2 cs ms (liLeft cs ms (liN ms)) (liTurn cs ms (liN ms)) (liN ms : Nat)) := by
  refine for_up (e := .exit 2) (liN ms) (fun i => h_laws_FnLines_L2 cs ms (liLeft cs ms i) (liTurn cs ms i) (i : Nat)) (by first | rfl | simp) (fun i hi => ?_) ?_
  · refine q_laws_FnLines_L2 _ _ _ _ _ ?_
    rw [lY]
    have e1 : liLeft cs ms (i + 1) = fadd .f64 (liLeft cs ms i) (liD cs ms i) := rfl
    have e2 : liTurn cs ms (i + 1) = fadd .f64 (liTurn cs ms i) (fmul .f64 (liD cs ms i) (fofi .f64 i)) := rfl
    simp only [e1, e2, liD]
    clear e1 e2
    repeat' (first | with_reducible refine T.ok_ob ?_ (fun _ => ?_) | with_reducible refine T.ok_ite (fun _ => ?_) (fun _ => ?_) | with_reducible refine T.ok_leaf ?_)
    all_goals (try simp only [decide_eq_true_eq, decide_eq_false_iff_not, Bool.not_eq_true', Bool.not_eq_false', Bool.not_eq_eq_eq_not, Bool.not_true, Bool.not_false, Int.toNat_natCast, tab_len, List.length_append, List.length_singleton, List.length_cons, List.length_nil, List.length_drop, List.length_take, getD_drop', getD_nat, reduceCtorEq] at *)
    all_goals (try simp (disch := omega) only [wrap64_id] at *)
    all_goals first | omega | (exfalso; omega) | exact True.intro | skip
    all_goals first | with_reducible exact fconvOk_32_64 _ | rfl
  · refine q_laws_FnLines_L2 _ _ _ _ _ ?_
    rw [lY]
    repeat' (first | with_reducible refine T.ok_ob ?_ (fun _ => ?_) | with_reducible refine T.ok_ite (fun _ => ?_) (fun _ => ?_) | with_reducible refine T.ok_leaf ?_)
    all_goals (try simp only [decide_eq_true_eq, decide_eq_false_iff_not, Bool.not_eq_true', Bool.not_eq_false', Bool.not_eq_eq_eq_not, Bool.not_true, Bool.not_false, Int.toNat_natCast, tab_len, List.length_append, List.length_singleton, List.length_cons, List.length_nil, List.length_drop, List.length_take, getD_drop', getD_nat, reduceCtorEq] at *)
    all_goals (try simp (disch := omega) only [wrap64_id] at *)
    all_goals first | omega | (exfalso; omega) | exact True.intro | skip
    all_goals rfl
theorem k_laws_FnLines {P : Program} {f g1 g2 g3 g4 g5 g6 g7 : FuncId} (h : Is_laws_FnLines P f g1 g2 g3 g4 g5 g6 g7) (c1 : C_laws_b10Long P g1) (c2 : C_laws_b10At P g2) (c3 : C_impl_LineFit P g3) (c4 : C_impl_WeightFit P g4) (c5 : C_impl_MiddleSlope P g5) (c6 : C_spec_B10List P g6) (c7 : C_laws_b10Gap P g7) : C_laws_FnLines P f := by
  intro cs ms
  refine VCall.rng (fun hr => ?_)
  obtain ⟨r1, r2, _⟩ := hr
  obtain ⟨hc, lc⟩ := byt_of (cs := cs) r1
  obtain ⟨hm, lm⟩ := byt_of (cs := ms) r2
  obtain ⟨⟨n1, n2⟩, hN⟩ := li_n hm
  have wN : IntKind.wrap .i64 (3 + btM ms 0 20) = (liN ms : Nat) := by rw [← hN]; exact wrap64_id (by omega) (by omega)
  have hn : 3 ≤ liN ms ∧ liN ms ≤ 22 := ⟨n1, n2⟩
  have mx : maxLen = 9223372036854775807 := rfl
  -- the lists
  have sL := li_sm hm
  have lY : (liY cs ms).length = liN ms := by unfold liY; rw [s3L_len, ← hN]; omega
  have sY : Sm (liY cs ms) (liN ms) := ⟨lY, fun i hi => by
    have q := s3L_q hc 0 0 (3 + btM ms 0 20) i (by omega)
    have := q_bound q
    exact ⟨q.1, by unfold liY; grind, by unfold liY; grind⟩⟩
  have lP : (liP ms).length = liN ms := tab_len _ _
  have lO : (liO ms).length = liN ms := tab_len _ _
  have hP : (liP ms).length = liN ms ∧ ∀ i, i < liN ms → (liP ms).getD i 0 = fofi .f32 i := ⟨lP, fun i hi => tab_at _ _ hi⟩
  have hO : (liO ms).length = liN ms ∧ ∀ i, i < liN ms → (liO ms).getD i 0 = 1056964608 := ⟨lO, fun i hi => tab_at _ _ hi⟩
  obtain ⟨h0, h1⟩ := half_is
  have fits : ∀ {xs : List Nat}, Sm xs (liN ms) → lfOk xs = true ∧ wfOk (liP ms) xs (liO ms) = true := by
    intro xs hx
    obtain ⟨a1, a2, a3, a4, a5⟩ := lf_near hn hx
    obtain ⟨b1, b2, b3, b4, b5, b6, b7⟩ := wf_near hn hx hP hO
    have sx : seriesM xs = true := series_of (by rw [hx.1]; omega) (by rw [hx.1]; omega) (by rw [hx.1]; exact fun i hi => (hx.2 i hi).1)
    have sP : seriesM (liP ms) = true := series_of (by omega) (by omega) (by rw [lP]; exact fun i hi => by rw [hP.2 i hi]; exact (fofi_n (n := i) (by omega)).1)
    have sO : seriesM (liO ms) = true := series_of (by omega) (by omega) (by rw [lO]; exact fun i hi => by rw [hO.2 i hi]; exact h0)
    have nl : notLessM (liO ms) = true := by
      unfold notLessM
      rw [List.all_eq_true]
      intro x hx
      obtain ⟨i, hi, rfl⟩ := mem_getD hx
      rw [hO.2 i (by omega)]
      decide +kernel
    obtain ⟨d0, _⟩ := fit_num (liN ms) (by omega) n1
    have n3 : (3 : Rat) ≤ (liN ms : Nat) := nat_le_rat n1
    have z0 : sv 0 = 0 := zero_rv _
    have gt0 : fgt .f32 (sumM (liO ms)) 0 = true := by
      rw [fgt_rv (k := .f32) b5.1 zero_sf]
      refine decide_eq_true ?_
      show sv 0 < sv _
      rw [z0, b5.2]; grind
    have ne0 : feq .f32 (wfDown (liP ms) (liO ms)) 0 = false := by
      rw [feq_rv (k := .f32) b6 zero_sf]
      refine decide_eq_false ?_
      show ¬ sv _ = sv 0
      rw [z0, b7]; grind
    constructor
    · unfold lfOk
      rw [sx, (finM_sf _).2 a1, (finM_sf _).2 a4, hx.1]
      simp; omega
    · unfold wfOk twoM
      rw [sx, sP, sO, nl, gt0, ne0, (finM_sf _).2 b1, (finM_sf _).2 b3, lP, lO, hx.1]
      simp
  obtain ⟨kL, kW⟩ := fits sL
  obtain ⟨kY, kV⟩ := fits sY
  obtain ⟨e1, e2⟩ := li_lsq hm
  obtain ⟨a1, a2, a3, a4, a5⟩ := lf_near hn sL
  obtain ⟨b1, b2, b3, b4, _⟩ := wf_near hn sL hP hO
  obtain ⟨p1, p2, p3, p4, p5⟩ := lf_near hn sY
  obtain ⟨q1, q2, q3, q4, _⟩ := wf_near hn sY hP hO
  rw [e1] at a2 b2
  rw [e2] at a5 b4
  obtain ⟨m0, m1, m2⟩ := li_msv hm
  obtain ⟨B0, B1, _⟩ := li_b hm
  obtain ⟨S0, S1, _⟩ := li_s hm
  have r1 := c3 (liL ms) (by rw [sL.1]; omega)
  rw [kL, if_pos rfl, if_pos rfl] at r1
  have r2 := c4 (liP ms) (liL ms) (liO ms) (by omega) (by rw [sL.1]; omega) (by omega)
  rw [kW, if_pos rfl, if_pos rfl] at r2
  have r3 := c5 (liL ms) (by rw [sL.1]; omega)
  rw [m0, if_pos rfl] at r3
  have r4 := c6 cs (3 + btM ms 0 20) ⟨by omega, by omega⟩ hc lc
  have r5 := c3 (liY cs ms) (by omega)
  rw [kY, if_pos rfl, if_pos rfl] at r5
  have r6 := c4 (liP ms) (liY cs ms) (liO ms) (by omega) (by omega) (by omega)
  rw [kV, if_pos rfl, if_pos rfl] at r6
  refine h.call_cut (ps := ps_laws_FnLines) ?_
  refine cut_step (H := True) (σ1 := c_laws_FnLines_1 cs ms) (q_laws_FnLines_S0 cs ms ?_) (fun _ => ?_)
  · repeat' (first | with_reducible refine T.ok_ob ?_ (fun _ => ?_) | with_reducible refine T.ok_itrue ?_ | with_reducible refine T.ok_ifalse ?_ | with_reducible refine T.ok_ite (fun _ => ?_) (fun _ => ?_) | with_reducible refine T.ok_go ?_ | with_reducible refine T.ok_end ?_ | with_reducible refine T.ok_endL ?_)
    all_goals first | exact c1 _ _ | rfl | trivial
  refine cut_step (H := True) (σ1 := c_laws_FnLines_2 cs ms) (q_laws_FnLines_S1 cs ms ?_) (fun _ => ?_)
  · repeat' (first | with_reducible refine T.ok_ob ?_ (fun _ => ?_) | with_reducible refine T.ok_itrue ?_ | with_reducible refine T.ok_ifalse ?_ | with_reducible refine T.ok_ite (fun _ => ?_) (fun _ => ?_) | with_reducible refine T.ok_go ?_ | with_reducible refine T.ok_end ?_ | with_reducible refine T.ok_endL ?_)
    · exact c2 _ _ _ ⟨by omega, by omega⟩ hm
    · exact c2 _ _ _ ⟨by omega, by omega⟩ hm
    · trivial
    · trivial
    · exact c2 _ _ _ ⟨by omega, by omega⟩ hm
    · trivial
    · trivial
    · exact li_loop0 cs ms wN n2
    · trivial
  refine cut_step (H := True) (σ1 := c_laws_FnLines_3 cs ms) (q_laws_FnLines_S2 cs ms ?_) (fun _ => ?_)
  · repeat' (first | with_reducible refine T.ok_ob ?_ (fun _ => ?_) | with_reducible refine T.ok_itrue ?_ | with_reducible refine T.ok_ifalse ?_ | with_reducible refine T.ok_ite (fun _ => ?_) (fun _ => ?_) | with_reducible refine T.ok_go ?_ | with_reducible refine T.ok_end ?_ | with_reducible refine T.ok_endL ?_)
    · exact r1
    · exact r2
    · exact r3
    · rw [wN, hN]; exact r4
    · exact r5
    · exact r6
    · trivial
  refine cut_step (H := True) (σ1 := c_laws_FnLines_3 cs ms) (q_laws_FnLines_S3 cs ms ?_) (fun _ => ?_)
  · have g1 := gap_c01 a4 B0 (by rw [B1]; obtain ⟨x, y⟩ := a5; exact ⟨by grind, by grind⟩)
    have g2 := gap_c001 a1 S0 (by rw [S1]; obtain ⟨x, y⟩ := a2; exact ⟨by grind, by grind⟩)
    have g3 := gap_c01 b3 B0 (by rw [B1]; obtain ⟨x, y⟩ := b4; exact ⟨by grind, by grind⟩)
    have g4 := gap_c001 b1 S0 (by rw [S1]; obtain ⟨x, y⟩ := b2; exact ⟨by grind, by grind⟩)
    have g5 := gap_c001 m1 S0 (by rw [S1, m2]; exact ⟨by grind, by grind⟩)
    have g6 := gap_c01 (a := liE cs ms) p4 q3 (by obtain ⟨x, y⟩ := p5; obtain ⟨z, w⟩ := q4; exact ⟨by unfold liE; grind, by unfold liE; grind⟩)
    have g7 := gap_c001 (a := liG cs ms) p1 q1 (by obtain ⟨x, y⟩ := p2; obtain ⟨z, w⟩ := q2; exact ⟨by unfold liG; grind, by unfold liG; grind⟩)
    change fgt .f64 (gapD (fconv .f32 .f64 (lfBase (liL ms))) (fconv .f32 .f64 (fdiv .f32 (fofi .f32 (IntKind.wrap .i64 (btM ms 1 33 - 16))) 1082130432))) _ = _ at g1
    change fgt .f64 (gapD (fconv .f32 .f64 (lfSlope (liL ms))) (fconv .f32 .f64 (fdiv .f32 (fofi .f32 (IntKind.wrap .i64 (btM ms 2 33 - 16))) 1090519040))) _ = _ at g2
    change fgt .f64 (gapD (fconv .f32 .f64 (wfBase (liP ms) (liL ms) (liO ms))) (fconv .f32 .f64 (fdiv .f32 (fofi .f32 (IntKind.wrap .i64 (btM ms 1 33 - 16))) 1082130432))) _ = _ at g3
    change fgt .f64 (gapD (fconv .f32 .f64 (wfSlope (liP ms) (liL ms) (liO ms))) (fconv .f32 .f64 (fdiv .f32 (fofi .f32 (IntKind.wrap .i64 (btM ms 2 33 - 16))) 1090519040))) _ = _ at g4
    change fgt .f64 (gapD (fconv .f32 .f64 (msV (liL ms))) (fconv .f32 .f64 (fdiv .f32 (fofi .f32 (IntKind.wrap .i64 (btM ms 2 33 - 16))) 1090519040))) _ = _ at g5
    rw [g1, g2, g3, g4, g5, g6, g7]
    repeat' (first | with_reducible refine T.ok_ob ?_ (fun _ => ?_) | with_reducible refine T.ok_itrue ?_ | with_reducible refine T.ok_ifalse ?_ | with_reducible refine T.ok_ite (fun _ => ?_) (fun _ => ?_) | with_reducible refine T.ok_go ?_ | with_reducible refine T.ok_end ?_ | with_reducible refine T.ok_endL ?_)
    all_goals first | exact c7 _ _ | exact fconvOk_32_64 _ | exact T.ok_go True.intro | trivial
  refine cut_last (q_laws_FnLines_S4 cs ms ?_)
  obtain ⟨t1, t2⟩ := li_left hn sY
  change flt .f64 (gapD (liLeft cs ms (liN ms)) 0) _ = true at t1
  change flt .f64 (gapD (liTurn cs ms (liN ms)) 0) _ = true at t2
  have nn : liN ms * liN ms ≤ 22 * 22 := Nat.mul_le_mul n2 n2
  have wNN : IntKind.wrap .i64 (((liN ms : Nat) : Int) * ((liN ms : Nat) : Int)) = ((liN ms * liN ms : Nat) : Int) := by
    rw [← Int.natCast_mul]; exact wrap64_id (by omega) (by omega)
  rw [wN, wNN, t1, t2]
  refine T.ok_ob ?_ (fun _ => ?_)
  · exact li_loop2 cs ms lY n2
  repeat' (first | with_reducible refine T.ok_ob ?_ (fun _ => ?_) | with_reducible refine T.ok_itrue ?_ | with_reducible refine T.ok_ifalse ?_ | with_reducible refine T.ok_ite (fun _ => ?_) (fun _ => ?_) | with_reducible refine T.ok_go ?_ | with_reducible refine T.ok_end ?_ | with_reducible refine T.ok_endL ?_)
  all_goals first | exact c7 _ _ | rfl | trivial

end Go.Proofs.LV
