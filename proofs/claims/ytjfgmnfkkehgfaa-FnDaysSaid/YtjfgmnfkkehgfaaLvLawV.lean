/- The law FnDays. -/
import Derived.Test.YtjfgmnfkkehgfaaLvFnEE
import Derived.Test.YtjfgmnfkkehgfaaLvCut
namespace Go.Proofs.LV
open Go
set_option linter.unusedVariables false
set_option linter.unusedSimpArgs false

def dyN (ms : List Int) : Int := (atM ms 0 256 * 256 + atM ms 1 256).tmod 60000 - 30000
def dyY (ms : List Int) : Int := yoM (dyN ms)
def dyM (ms : List Int) : Int := 1 + (mfM (dyY ms) (dyN ms - yearM (dyY ms) + 1) : Nat)
def dyD (ms : List Int) : Int := dyN ms - yearM (dyY ms) + 1 - cumM (dyY ms) (mfM (dyY ms) (dyN ms - yearM (dyY ms) + 1))
def dyW (ms : List Int) : Int := weekM (dyN ms)
def dyW1 (ms : List Int) : Int := weekM (dyN ms + 1)
def dyYw (ms : List Int) : Int := yoM (thuM (dyN ms))
def dyKw (ms : List Int) : Int := (thuM (dyN ms) - yearM (yoM (thuM (dyN ms)))).tdiv 7 + 1
def dyZw (ms : List Int) : Int := yoM (thuM (dyN ms + 7))
def dyOw (ms : List Int) : Int := (thuM (dyN ms + 7) - yearM (yoM (thuM (dyN ms + 7)))).tdiv 7 + 1
def dyF (ms : List Int) : Int := dayM (dyY ms) (dyM ms) 1
def dyL (ms : List Int) : Int := moM (dyY ms) (dyM ms)
def dyE (ms : List Int) : Int := dayM (dyY ms) ((eaS (dyY ms)).tdiv 31) ((eaS (dyY ms)).tmod 31 + 1)
def dyMa (ms : List Int) : Int := dayM (dyY ms) 3 22
def dyX (ms : List Int) : List Int := [dyN ms + 1, dyN ms + 2 + atM ms 2 5]
def dyK (ms : List Int) : Int := 1 + atM ms 3 40
def dyA (ms : List Int) : Int := dyN ms + wbJ (dyX ms) (dyN ms) (dyK ms)
def dyWa (ms : List Int) : Int := weekM (dyA ms)

-- FN laws_FnDays
/-- laws.FnDays: slots 353, results [.t 4]; calls [47:g_laws_r8Long, 49:g_laws_r8At, 52:g_laws_r8At, 58:g_impl_DateOf, 67:g_impl_DayOf, 72:g_impl_WeekdayOf, 78:g_impl_WeekdayOf, 83:g_impl_WeekOf, 90:g_impl_WeekOf, 97:g_impl_DayOf, 103:g_impl_LongOfMonth, 209:g_impl_IsLeap, 221:g_impl_WeekdayIn, 226:g_impl_EasterOf, 231:g_impl_WeekdayOf, 236:g_impl_DayOf, 278:g_laws_r8At, 283:g_laws_r8At, 289:g_impl_WorkDayBehind, 297:g_impl_WorkDays, 306:g_impl_WorkDays, 311:g_impl_WeekdayOf]; names [(code, 0), (more, 1), (code, 2), (more, 3), (n, 5), (year, 6), (month, 7), (day, 8), (one, 9), (back, 10), (two, 11), (weekday, 12), (three, 13), (next, 14), (four, 15), (y, 16), (week, 17), (five, 18), (z, 19), (other, 20), (six, 21), (first, 22), (seven, 23), (long, 24), (eight, 25), (count, 26), (same, 27), (nine, 28), (easter, 29), (ten, 30), (sunday, 31), (eleven, 32), (march, 33), (twelve, 34), (feasts, 35), (k, 36), (at, 37), (thirteen, 38), (works, 39), (fourteen, 40), (fewer, 41), (fifteen, 42), (free, 43), (sixteen, 44)] -/
def ps_laws_FnDays : List Nat := [0, 1, 4, 5, 6, 7, 8, 9, 10, 11, 12, 13, 14, 15, 16, 17, 18, 19, 20, 21, 22, 23, 24, 25, 26, 27, 28, 29, 30, 31, 32, 33, 34, 35, 36, 37, 38, 39, 40, 41, 42, 43, 44, 47, 202, 211, 272]
def b_laws_FnDays (g_laws_r8Long g_laws_r8At g_impl_DateOf g_impl_DayOf g_impl_WeekdayOf g_impl_WeekOf g_impl_LongOfMonth g_impl_IsLeap g_impl_WeekdayIn g_impl_EasterOf g_impl_WorkDayBehind g_impl_WorkDays : FuncId) : VCode :=
  (.seq
   (.region false [
    ⟨some 4, .mv, [.k (.b false)], none⟩])
   (.seq
    (.seq
     (.region false [
      ⟨some 45, .mv, [.t 0], none⟩,
      ⟨some 46, .mv, [.t 1], none⟩,
      ⟨some 47, (.call g_laws_r8Long), [.t 45, .t 46], none⟩])
     (.cond (.t 47)
      (.seq
       (.region false [
        ⟨some 4, .mv, [.k (.b true)], none⟩])
       .ret)
      .skip))
    (.seq
     (.region false [
      ⟨some 48, .mv, [.t 1], none⟩,
      ⟨some 49, (.call g_laws_r8At), [.t 48, .k (.i .i64 0), .k (.i .i64 256)], none⟩,
      ⟨some 50, (.bin .mul), [.t 49, .k (.i .i64 256)], none⟩,
      ⟨some 51, .mv, [.t 1], none⟩,
      ⟨some 52, (.call g_laws_r8At), [.t 51, .k (.i .i64 1), .k (.i .i64 256)], none⟩,
      ⟨some 53, (.bin .add), [.t 50, .t 52], none⟩,
      ⟨some 54, (.bin .rem), [.t 53, .k (.i .i64 60000)], none⟩,
      ⟨some 55, (.bin .sub), [.t 54, .k (.i .i64 30000)], none⟩,
      ⟨some 5, .mv, [.t 55], none⟩])
     (.seq
      (.region false [
       ⟨some 57, .mv, [.t 5], none⟩,
       ⟨some 58, (.call g_impl_DateOf), [.t 57], none⟩,
       ⟨some 56, .mv, [.t 58], none⟩,
       ⟨some 59, (.extract 0), [.t 56], none⟩,
       ⟨some 60, (.extract 1), [.t 56], none⟩,
       ⟨some 61, (.extract 2), [.t 56], none⟩,
       ⟨some 62, (.extract 3), [.t 56], none⟩,
       ⟨some 6, .mv, [.t 59], none⟩,
       ⟨some 7, .mv, [.t 60], none⟩,
       ⟨some 8, .mv, [.t 61], none⟩,
       ⟨some 9, .mv, [.t 62], none⟩])
      (.seq
       (.region false [
        ⟨some 64, .mv, [.t 6], none⟩,
        ⟨some 65, .mv, [.t 7], none⟩,
        ⟨some 66, .mv, [.t 8], none⟩,
        ⟨some 67, (.call g_impl_DayOf), [.t 64, .t 65, .t 66], none⟩,
        ⟨some 63, .mv, [.t 67], none⟩,
        ⟨some 68, (.extract 0), [.t 63], none⟩,
        ⟨some 69, (.extract 1), [.t 63], none⟩,
        ⟨some 10, .mv, [.t 68], none⟩,
        ⟨some 11, .mv, [.t 69], none⟩])
       (.seq
        (.region false [
         ⟨some 71, .mv, [.t 5], none⟩,
         ⟨some 72, (.call g_impl_WeekdayOf), [.t 71], none⟩,
         ⟨some 70, .mv, [.t 72], none⟩,
         ⟨some 73, (.extract 0), [.t 70], none⟩,
         ⟨some 74, (.extract 1), [.t 70], none⟩,
         ⟨some 12, .mv, [.t 73], none⟩,
         ⟨some 13, .mv, [.t 74], none⟩])
        (.seq
         (.region false [
          ⟨some 76, .mv, [.t 5], none⟩,
          ⟨some 77, (.bin .add), [.t 76, .k (.i .i64 1)], none⟩,
          ⟨some 78, (.call g_impl_WeekdayOf), [.t 77], none⟩,
          ⟨some 75, .mv, [.t 78], none⟩,
          ⟨some 79, (.extract 0), [.t 75], none⟩,
          ⟨some 80, (.extract 1), [.t 75], none⟩,
          ⟨some 14, .mv, [.t 79], none⟩,
          ⟨some 15, .mv, [.t 80], none⟩])
         (.seq
          (.region false [
           ⟨some 82, .mv, [.t 5], none⟩,
           ⟨some 83, (.call g_impl_WeekOf), [.t 82], none⟩,
           ⟨some 81, .mv, [.t 83], none⟩,
           ⟨some 84, (.extract 0), [.t 81], none⟩,
           ⟨some 85, (.extract 1), [.t 81], none⟩,
           ⟨some 86, (.extract 2), [.t 81], none⟩,
           ⟨some 16, .mv, [.t 84], none⟩,
           ⟨some 17, .mv, [.t 85], none⟩,
           ⟨some 18, .mv, [.t 86], none⟩])
          (.seq
           (.region false [
            ⟨some 88, .mv, [.t 5], none⟩,
            ⟨some 89, (.bin .add), [.t 88, .k (.i .i64 7)], none⟩,
            ⟨some 90, (.call g_impl_WeekOf), [.t 89], none⟩,
            ⟨some 87, .mv, [.t 90], none⟩,
            ⟨some 91, (.extract 0), [.t 87], none⟩,
            ⟨some 92, (.extract 1), [.t 87], none⟩,
            ⟨some 93, (.extract 2), [.t 87], none⟩,
            ⟨some 19, .mv, [.t 91], none⟩,
            ⟨some 20, .mv, [.t 92], none⟩,
            ⟨some 21, .mv, [.t 93], none⟩])
           (.seq
            (.region false [
             ⟨some 95, .mv, [.t 6], none⟩,
             ⟨some 96, .mv, [.t 7], none⟩,
             ⟨some 97, (.call g_impl_DayOf), [.t 95, .t 96, .k (.i .i64 1)], none⟩,
             ⟨some 94, .mv, [.t 97], none⟩,
             ⟨some 98, (.extract 0), [.t 94], none⟩,
             ⟨some 99, (.extract 1), [.t 94], none⟩,
             ⟨some 22, .mv, [.t 98], none⟩,
             ⟨some 23, .mv, [.t 99], none⟩])
            (.seq
             (.region false [
              ⟨some 101, .mv, [.t 6], none⟩,
              ⟨some 102, .mv, [.t 7], none⟩,
              ⟨some 103, (.call g_impl_LongOfMonth), [.t 101, .t 102], none⟩,
              ⟨some 100, .mv, [.t 103], none⟩,
              ⟨some 104, (.extract 0), [.t 100], none⟩,
              ⟨some 105, (.extract 1), [.t 100], none⟩,
              ⟨some 24, .mv, [.t 104], none⟩,
              ⟨some 25, .mv, [.t 105], none⟩])
             (.seq
              (.seq
               (.region false [
                ⟨some 106, .mv, [.t 9], none⟩,
                ⟨some 107, .not, [.t 106], none⟩,
                ⟨some 108, .mv, [.t 107], none⟩,
                ⟨some 109, .mv, [.t 11], some (108, false)⟩,
                ⟨some 110, .not, [.t 109], some (108, false)⟩,
                ⟨some 111, .pick, [.t 108, .k (.b true), .t 110], none⟩,
                ⟨some 112, .mv, [.t 111], none⟩,
                ⟨some 113, .mv, [.t 13], some (112, false)⟩,
                ⟨some 114, .not, [.t 113], some (112, false)⟩,
                ⟨some 115, .pick, [.t 112, .k (.b true), .t 114], none⟩,
                ⟨some 116, .mv, [.t 115], none⟩,
                ⟨some 117, .mv, [.t 15], some (116, false)⟩,
                ⟨some 118, .not, [.t 117], some (116, false)⟩,
                ⟨some 119, .pick, [.t 116, .k (.b true), .t 118], none⟩,
                ⟨some 120, .mv, [.t 119], none⟩,
                ⟨some 121, .mv, [.t 18], some (120, false)⟩,
                ⟨some 122, .not, [.t 121], some (120, false)⟩,
                ⟨some 123, .pick, [.t 120, .k (.b true), .t 122], none⟩,
                ⟨some 124, .mv, [.t 123], none⟩,
                ⟨some 125, .mv, [.t 21], some (124, false)⟩,
                ⟨some 126, .not, [.t 125], some (124, false)⟩,
                ⟨some 127, .pick, [.t 124, .k (.b true), .t 126], none⟩,
                ⟨some 128, .mv, [.t 127], none⟩,
                ⟨some 129, .mv, [.t 23], some (128, false)⟩,
                ⟨some 130, .not, [.t 129], some (128, false)⟩,
                ⟨some 131, .pick, [.t 128, .k (.b true), .t 130], none⟩,
                ⟨some 132, .mv, [.t 131], none⟩,
                ⟨some 133, .mv, [.t 25], some (132, false)⟩,
                ⟨some 134, .not, [.t 133], some (132, false)⟩,
                ⟨some 135, .pick, [.t 132, .k (.b true), .t 134], none⟩,
                ⟨some 136, .mv, [.t 135], none⟩,
                ⟨some 137, .mv, [.t 10], some (136, false)⟩,
                ⟨some 138, .mv, [.t 5], some (136, false)⟩,
                ⟨some 139, (.bin .neq), [.t 137, .t 138], some (136, false)⟩,
                ⟨some 140, .pick, [.t 136, .k (.b true), .t 139], none⟩,
                ⟨some 141, .mv, [.t 140], none⟩,
                ⟨some 142, .mv, [.t 14], some (141, false)⟩,
                ⟨some 143, .mv, [.t 12], some (141, false)⟩,
                ⟨some 144, (.bin .add), [.t 143, .k (.i .i64 1)], some (141, false)⟩,
                ⟨some 145, (.bin .rem), [.t 144, .k (.i .i64 7)], some (141, false)⟩,
                ⟨some 146, (.bin .neq), [.t 142, .t 145], some (141, false)⟩,
                ⟨some 147, .pick, [.t 141, .k (.b true), .t 146], none⟩,
                ⟨some 148, .mv, [.t 147], none⟩,
                ⟨some 149, .mv, [.t 22], some (148, false)⟩,
                ⟨some 150, .mv, [.t 8], some (148, false)⟩,
                ⟨some 151, (.bin .add), [.t 149, .t 150], some (148, false)⟩,
                ⟨some 152, (.bin .sub), [.t 151, .k (.i .i64 1)], some (148, false)⟩,
                ⟨some 153, .mv, [.t 5], some (148, false)⟩,
                ⟨some 154, (.bin .neq), [.t 152, .t 153], some (148, false)⟩,
                ⟨some 155, .pick, [.t 148, .k (.b true), .t 154], none⟩,
                ⟨some 156, .mv, [.t 155], none⟩,
                ⟨some 157, .mv, [.t 8], some (156, false)⟩,
                ⟨some 158, .mv, [.t 24], some (156, false)⟩,
                ⟨some 159, (.bin .gtr), [.t 157, .t 158], some (156, false)⟩,
                ⟨some 160, .pick, [.t 156, .k (.b true), .t 159], none⟩,
                ⟨some 161, .mv, [.t 160], none⟩,
                ⟨some 162, .mv, [.t 24], some (161, false)⟩,
                ⟨some 163, (.bin .lss), [.t 162, .k (.i .i64 28)], some (161, false)⟩,
                ⟨some 164, .pick, [.t 161, .k (.b true), .t 163], none⟩,
                ⟨some 165, .mv, [.t 164], none⟩,
                ⟨some 166, .mv, [.t 24], some (165, false)⟩,
                ⟨some 167, (.bin .gtr), [.t 166, .k (.i .i64 31)], some (165, false)⟩,
                ⟨some 168, .pick, [.t 165, .k (.b true), .t 167], none⟩,
                ⟨some 169, .mv, [.t 168], none⟩,
                ⟨some 170, .mv, [.t 17], some (169, false)⟩,
                ⟨some 171, (.bin .lss), [.t 170, .k (.i .i64 1)], some (169, false)⟩,
                ⟨some 172, .pick, [.t 169, .k (.b true), .t 171], none⟩,
                ⟨some 173, .mv, [.t 172], none⟩,
                ⟨some 174, .mv, [.t 17], some (173, false)⟩,
                ⟨some 175, (.bin .gtr), [.t 174, .k (.i .i64 53)], some (173, false)⟩,
                ⟨some 176, .pick, [.t 173, .k (.b true), .t 175], none⟩,
                ⟨some 177, .mv, [.t 176], none⟩,
                ⟨some 178, .mv, [.t 16], some (177, false)⟩,
                ⟨some 179, .mv, [.t 19], some (177, false)⟩,
                ⟨some 180, (.bin .eql), [.t 178, .t 179], some (177, false)⟩,
                ⟨some 181, .mv, [.t 180], some (177, false)⟩,
                ⟨some 182, .mv, [.t 20], some (181, true)⟩,
                ⟨some 183, .mv, [.t 17], some (181, true)⟩,
                ⟨some 184, (.bin .add), [.t 183, .k (.i .i64 1)], some (181, true)⟩,
                ⟨some 185, (.bin .neq), [.t 182, .t 184], some (181, true)⟩,
                ⟨some 186, .pick, [.t 181, .t 185, .k (.b false)], some (177, false)⟩,
                ⟨some 187, .pick, [.t 177, .k (.b true), .t 186], none⟩,
                ⟨some 188, .mv, [.t 187], none⟩,
                ⟨some 189, .mv, [.t 16], some (188, false)⟩,
                ⟨some 190, .mv, [.t 19], some (188, false)⟩,
                ⟨some 191, (.bin .neq), [.t 189, .t 190], some (188, false)⟩,
                ⟨some 192, .mv, [.t 191], some (188, false)⟩,
                ⟨some 193, .mv, [.t 19], some (192, true)⟩,
                ⟨some 194, .mv, [.t 16], some (192, true)⟩,
                ⟨some 195, (.bin .add), [.t 194, .k (.i .i64 1)], some (192, true)⟩,
                ⟨some 196, (.bin .neq), [.t 193, .t 195], some (192, true)⟩,
                ⟨some 197, .mv, [.t 196], some (192, true)⟩,
                ⟨some 198, .mv, [.t 20], some (197, false)⟩,
                ⟨some 199, (.bin .neq), [.t 198, .k (.i .i64 1)], some (197, false)⟩,
                ⟨some 200, .pick, [.t 197, .k (.b true), .t 199], some (192, true)⟩,
                ⟨some 201, .pick, [.t 192, .t 200, .k (.b false)], some (188, false)⟩,
                ⟨some 202, .pick, [.t 188, .k (.b true), .t 201], none⟩])
               (.cond (.t 202)
                (.seq
                 (.region false [
                  ⟨some 4, .mv, [.k (.b false)], none⟩])
                 .ret)
                .skip))
              (.seq
               (.seq
                (.region false [
                 ⟨some 203, .mv, [.t 24], none⟩,
                 ⟨some 204, (.bin .eql), [.t 203, .k (.i .i64 29)], none⟩,
                 ⟨some 205, .mv, [.t 7], none⟩,
                 ⟨some 206, (.bin .eql), [.t 205, .k (.i .i64 2)], none⟩,
                 ⟨some 207, .mv, [.t 206], none⟩,
                 ⟨some 208, .mv, [.t 6], some (207, true)⟩,
                 ⟨some 209, (.call g_impl_IsLeap), [.t 208], some (207, true)⟩,
                 ⟨some 210, .pick, [.t 207, .t 209, .k (.b false)], none⟩,
                 ⟨some 211, (.binb .neq), [.t 204, .t 210], none⟩])
                (.cond (.t 211)
                 (.seq
                  (.region false [
                   ⟨some 4, .mv, [.k (.b false)], none⟩])
                  .ret)
                 .skip))
               (.seq
                (.region false [
                 ⟨some 212, .mv, [.t 8], none⟩,
                 ⟨some 213, (.bin .sub), [.t 212, .k (.i .i64 1)], none⟩,
                 ⟨some 214, (.bin .quo), [.t 213, .k (.i .i64 7)], none⟩,
                 ⟨some 215, (.bin .add), [.k (.i .i64 1), .t 214], none⟩,
                 ⟨some 26, .mv, [.t 215], none⟩])
                (.seq
                 (.region false [
                  ⟨some 217, .mv, [.t 6], none⟩,
                  ⟨some 218, .mv, [.t 7], none⟩,
                  ⟨some 219, .mv, [.t 12], none⟩,
                  ⟨some 220, .mv, [.t 26], none⟩,
                  ⟨some 221, (.call g_impl_WeekdayIn), [.t 217, .t 218, .t 219, .t 220], none⟩,
                  ⟨some 216, .mv, [.t 221], none⟩,
                  ⟨some 222, (.extract 0), [.t 216], none⟩,
                  ⟨some 223, (.extract 1), [.t 216], none⟩,
                  ⟨some 27, .mv, [.t 222], none⟩,
                  ⟨some 28, .mv, [.t 223], none⟩])
                 (.seq
                  (.region false [
                   ⟨some 225, .mv, [.t 6], none⟩,
                   ⟨some 226, (.call g_impl_EasterOf), [.t 225], none⟩,
                   ⟨some 224, .mv, [.t 226], none⟩,
                   ⟨some 227, (.extract 0), [.t 224], none⟩,
                   ⟨some 228, (.extract 1), [.t 224], none⟩,
                   ⟨some 29, .mv, [.t 227], none⟩,
                   ⟨some 30, .mv, [.t 228], none⟩])
                  (.seq
                   (.region false [
                    ⟨some 230, .mv, [.t 29], none⟩,
                    ⟨some 231, (.call g_impl_WeekdayOf), [.t 230], none⟩,
                    ⟨some 229, .mv, [.t 231], none⟩,
                    ⟨some 232, (.extract 0), [.t 229], none⟩,
                    ⟨some 233, (.extract 1), [.t 229], none⟩,
                    ⟨some 31, .mv, [.t 232], none⟩,
                    ⟨some 32, .mv, [.t 233], none⟩])
                   (.seq
                    (.region false [
                     ⟨some 235, .mv, [.t 6], none⟩,
                     ⟨some 236, (.call g_impl_DayOf), [.t 235, .k (.i .i64 3), .k (.i .i64 22)], none⟩,
                     ⟨some 234, .mv, [.t 236], none⟩,
                     ⟨some 237, (.extract 0), [.t 234], none⟩,
                     ⟨some 238, (.extract 1), [.t 234], none⟩,
                     ⟨some 33, .mv, [.t 237], none⟩,
                     ⟨some 34, .mv, [.t 238], none⟩])
                    (.seq
                     (.seq
                      (.region false [
                       ⟨some 239, .mv, [.t 28], none⟩,
                       ⟨some 240, .not, [.t 239], none⟩,
                       ⟨some 241, .mv, [.t 240], none⟩,
                       ⟨some 242, .mv, [.t 30], some (241, false)⟩,
                       ⟨some 243, .not, [.t 242], some (241, false)⟩,
                       ⟨some 244, .pick, [.t 241, .k (.b true), .t 243], none⟩,
                       ⟨some 245, .mv, [.t 244], none⟩,
                       ⟨some 246, .mv, [.t 32], some (245, false)⟩,
                       ⟨some 247, .not, [.t 246], some (245, false)⟩,
                       ⟨some 248, .pick, [.t 245, .k (.b true), .t 247], none⟩,
                       ⟨some 249, .mv, [.t 248], none⟩,
                       ⟨some 250, .mv, [.t 34], some (249, false)⟩,
                       ⟨some 251, .not, [.t 250], some (249, false)⟩,
                       ⟨some 252, .pick, [.t 249, .k (.b true), .t 251], none⟩,
                       ⟨some 253, .mv, [.t 252], none⟩,
                       ⟨some 254, .mv, [.t 27], some (253, false)⟩,
                       ⟨some 255, .mv, [.t 5], some (253, false)⟩,
                       ⟨some 256, (.bin .neq), [.t 254, .t 255], some (253, false)⟩,
                       ⟨some 257, .pick, [.t 253, .k (.b true), .t 256], none⟩,
                       ⟨some 258, .mv, [.t 257], none⟩,
                       ⟨some 259, .mv, [.t 31], some (258, false)⟩,
                       ⟨some 260, (.bin .neq), [.t 259, .k (.i .i64 6)], some (258, false)⟩,
                       ⟨some 261, .pick, [.t 258, .k (.b true), .t 260], none⟩,
                       ⟨some 262, .mv, [.t 261], none⟩,
                       ⟨some 263, .mv, [.t 29], some (262, false)⟩,
                       ⟨some 264, .mv, [.t 33], some (262, false)⟩,
                       ⟨some 265, (.bin .lss), [.t 263, .t 264], some (262, false)⟩,
                       ⟨some 266, .pick, [.t 262, .k (.b true), .t 265], none⟩,
                       ⟨some 267, .mv, [.t 266], none⟩,
                       ⟨some 268, .mv, [.t 29], some (267, false)⟩,
                       ⟨some 269, .mv, [.t 33], some (267, false)⟩,
                       ⟨some 270, (.bin .add), [.t 269, .k (.i .i64 34)], some (267, false)⟩,
                       ⟨some 271, (.bin .gtr), [.t 268, .t 270], some (267, false)⟩,
                       ⟨some 272, .pick, [.t 267, .k (.b true), .t 271], none⟩])
                      (.cond (.t 272)
                       (.seq
                        (.region false [
                         ⟨some 4, .mv, [.k (.b false)], none⟩])
                        .ret)
                       .skip))
                     (.seq
                      (.region false [
                       ⟨some 273, .mv, [.t 5], none⟩,
                       ⟨some 274, (.bin .add), [.t 273, .k (.i .i64 1)], none⟩,
                       ⟨some 275, .mv, [.t 5], none⟩,
                       ⟨some 276, (.bin .add), [.t 275, .k (.i .i64 1)], none⟩,
                       ⟨some 277, .mv, [.t 1], none⟩,
                       ⟨some 278, (.call g_laws_r8At), [.t 277, .k (.i .i64 2), .k (.i .i64 5)], none⟩,
                       ⟨some 279, (.bin .add), [.t 276, .t 278], none⟩,
                       ⟨some 280, (.bin .add), [.t 279, .k (.i .i64 1)], none⟩,
                       ⟨some 281, (.lit true (.i .i64 [])), [.t 274, .t 280], none⟩,
                       ⟨some 35, .mv, [.t 281], none⟩])
                      (.seq
                       (.region false [
                        ⟨some 282, .mv, [.t 1], none⟩,
                        ⟨some 283, (.call g_laws_r8At), [.t 282, .k (.i .i64 3), .k (.i .i64 40)], none⟩,
                        ⟨some 284, (.bin .add), [.k (.i .i64 1), .t 283], none⟩,
                        ⟨some 36, .mv, [.t 284], none⟩])
                       (.seq
                        (.region false [
                         ⟨some 286, .mv, [.t 5], none⟩,
                         ⟨some 287, .mv, [.t 36], none⟩,
                         ⟨some 288, .mv, [.t 35], none⟩,
                         ⟨some 289, (.call g_impl_WorkDayBehind), [.t 286, .t 287, .t 288], none⟩,
                         ⟨some 285, .mv, [.t 289], none⟩,
                         ⟨some 290, (.extract 0), [.t 285], none⟩,
                         ⟨some 291, (.extract 1), [.t 285], none⟩,
                         ⟨some 37, .mv, [.t 290], none⟩,
                         ⟨some 38, .mv, [.t 291], none⟩])
                        (.seq
                         (.region false [
                          ⟨some 293, .mv, [.t 5], none⟩,
                          ⟨some 294, (.bin .add), [.t 293, .k (.i .i64 1)], none⟩,
                          ⟨some 295, .mv, [.t 37], none⟩,
                          ⟨some 296, .mv, [.t 35], none⟩,
                          ⟨some 297, (.call g_impl_WorkDays), [.t 294, .t 295, .t 296], none⟩,
                          ⟨some 292, .mv, [.t 297], none⟩,
                          ⟨some 298, (.extract 0), [.t 292], none⟩,
                          ⟨some 299, (.extract 1), [.t 292], none⟩,
                          ⟨some 39, .mv, [.t 298], none⟩,
                          ⟨some 40, .mv, [.t 299], none⟩])
                         (.seq
                          (.region false [
                           ⟨some 301, .mv, [.t 5], none⟩,
                           ⟨some 302, (.bin .add), [.t 301, .k (.i .i64 1)], none⟩,
                           ⟨some 303, .mv, [.t 37], none⟩,
                           ⟨some 304, (.bin .sub), [.t 303, .k (.i .i64 1)], none⟩,
                           ⟨some 305, .mv, [.t 35], none⟩,
                           ⟨some 306, (.call g_impl_WorkDays), [.t 302, .t 304, .t 305], none⟩,
                           ⟨some 300, .mv, [.t 306], none⟩,
                           ⟨some 307, (.extract 0), [.t 300], none⟩,
                           ⟨some 308, (.extract 1), [.t 300], none⟩,
                           ⟨some 41, .mv, [.t 307], none⟩,
                           ⟨some 42, .mv, [.t 308], none⟩])
                          (.seq
                           (.region false [
                            ⟨some 310, .mv, [.t 37], none⟩,
                            ⟨some 311, (.call g_impl_WeekdayOf), [.t 310], none⟩,
                            ⟨some 309, .mv, [.t 311], none⟩,
                            ⟨some 312, (.extract 0), [.t 309], none⟩,
                            ⟨some 313, (.extract 1), [.t 309], none⟩,
                            ⟨some 43, .mv, [.t 312], none⟩,
                            ⟨some 44, .mv, [.t 313], none⟩])
                           (.seq
                            (.region false [
                             ⟨some 314, .mv, [.t 38], none⟩,
                             ⟨some 315, .mv, [.t 314], none⟩,
                             ⟨some 316, .mv, [.t 40], some (315, true)⟩,
                             ⟨some 317, .pick, [.t 315, .t 316, .k (.b false)], none⟩,
                             ⟨some 318, .mv, [.t 317], none⟩,
                             ⟨some 319, .mv, [.t 42], some (318, true)⟩,
                             ⟨some 320, .pick, [.t 318, .t 319, .k (.b false)], none⟩,
                             ⟨some 321, .mv, [.t 320], none⟩,
                             ⟨some 322, .mv, [.t 44], some (321, true)⟩,
                             ⟨some 323, .pick, [.t 321, .t 322, .k (.b false)], none⟩,
                             ⟨some 324, .mv, [.t 323], none⟩,
                             ⟨some 325, .mv, [.t 39], some (324, true)⟩,
                             ⟨some 326, .mv, [.t 36], some (324, true)⟩,
                             ⟨some 327, (.bin .eql), [.t 325, .t 326], some (324, true)⟩,
                             ⟨some 328, .pick, [.t 324, .t 327, .k (.b false)], none⟩,
                             ⟨some 329, .mv, [.t 328], none⟩,
                             ⟨some 330, .mv, [.t 41], some (329, true)⟩,
                             ⟨some 331, .mv, [.t 36], some (329, true)⟩,
                             ⟨some 332, (.bin .sub), [.t 331, .k (.i .i64 1)], some (329, true)⟩,
                             ⟨some 333, (.bin .eql), [.t 330, .t 332], some (329, true)⟩,
                             ⟨some 334, .pick, [.t 329, .t 333, .k (.b false)], none⟩,
                             ⟨some 335, .mv, [.t 334], none⟩,
                             ⟨some 336, .mv, [.t 43], some (335, true)⟩,
                             ⟨some 337, (.bin .lss), [.t 336, .k (.i .i64 5)], some (335, true)⟩,
                             ⟨some 338, .pick, [.t 335, .t 337, .k (.b false)], none⟩,
                             ⟨some 339, .mv, [.t 338], none⟩,
                             ⟨some 340, .mv, [.t 37], some (339, true)⟩,
                             ⟨some 341, .mv, [.t 35], some (339, true)⟩,
                             ⟨some 342, .iaddr, [.t 341, .k (.i .i64 0)], some (339, true)⟩,
                             ⟨some 343, .load, [.t 342], some (339, true)⟩,
                             ⟨some 344, (.bin .neq), [.t 340, .t 343], some (339, true)⟩,
                             ⟨some 345, .pick, [.t 339, .t 344, .k (.b false)], none⟩,
                             ⟨some 346, .mv, [.t 345], none⟩,
                             ⟨some 347, .mv, [.t 37], some (346, true)⟩,
                             ⟨some 348, .mv, [.t 35], some (346, true)⟩,
                             ⟨some 349, .iaddr, [.t 348, .k (.i .i64 1)], some (346, true)⟩,
                             ⟨some 350, .load, [.t 349], some (346, true)⟩,
                             ⟨some 351, (.bin .neq), [.t 347, .t 350], some (346, true)⟩,
                             ⟨some 352, .pick, [.t 346, .t 351, .k (.b false)], none⟩,
                             ⟨some 4, .mv, [.t 352], none⟩])
                            .ret))))))))))))))))))))))))))

abbrev Is_laws_FnDays (P : Program) (g_f : FuncId) (g_laws_r8Long g_laws_r8At g_impl_DateOf g_impl_DayOf g_impl_WeekdayOf g_impl_WeekOf g_impl_LongOfMonth g_impl_IsLeap g_impl_WeekdayIn g_impl_EasterOf g_impl_WorkDayBehind g_impl_WorkDays : FuncId) : Prop := FnIs P g_f 353 [.t 4] (b_laws_FnDays g_laws_r8Long g_laws_r8At g_impl_DateOf g_impl_DayOf g_impl_WeekdayOf g_impl_WeekOf g_impl_LongOfMonth g_impl_IsLeap g_impl_WeekdayIn g_impl_EasterOf g_impl_WorkDayBehind g_impl_WorkDays)

abbrev C_laws_FnDays (P : Program) (g_f : FuncId) : Prop := ∀ (cs : List Int) (ms : List Int), VCall P g_f [PU [0] cs, PU [1] ms] (.b true)
def oc1_laws_FnDays (as : List AV) : T AV := match as with | [.sl _ _ (.i _ cs), .sl _ _ (.i _ ms)] => .leaf (.b true) | _ => .fail
def oc_laws_FnDays (cs : List Int) (ms : List Int) (d : Nat) (as : List AV) : T AV := match d with | 47 => oc1_laws_r8Long as | 49 => oc1_laws_r8At as | 52 => oc1_laws_r8At as | 58 => .leaf (.tup [.i .i64 (dyY ms), .i .i64 (dyM ms), .i .i64 (dyD ms), .b true]) | 67 => .leaf (.tup [.i .i64 (dyN ms), .b true]) | 72 => .leaf (.tup [.i .i64 (dyW ms), .b true]) | 78 => .leaf (.tup [.i .i64 (dyW1 ms), .b true]) | 83 => .leaf (.tup [.i .i64 (dyYw ms), .i .i64 (dyKw ms), .b true]) | 90 => .leaf (.tup [.i .i64 (dyZw ms), .i .i64 (dyOw ms), .b true]) | 97 => .leaf (.tup [.i .i64 (dyF ms), .b true]) | 103 => .leaf (.tup [.i .i64 (dyL ms), .b true]) | 209 => .leaf (.b (leapM (dyY ms))) | 221 => .leaf (.tup [.i .i64 (dyN ms), .b true]) | 226 => .leaf (.tup [.i .i64 (dyE ms), .b true]) | 231 => .leaf (.tup [.i .i64 6, .b true]) | 236 => .leaf (.tup [.i .i64 (dyMa ms), .b true]) | 278 => oc1_laws_r8At as | 283 => oc1_laws_r8At as | 289 => .leaf (.tup [.i .i64 (dyA ms), .b true]) | 297 => .leaf (.tup [.i .i64 (dyK ms), .b true]) | 306 => .leaf (.tup [.i .i64 (dyK ms - 1), .b true]) | 311 => .leaf (.tup [.i .i64 (dyWa ms), .b true]) | _ => .fail
def c_laws_FnDays_1 (cs : List Int) (ms : List Int) : Env := [AV.sl (Tag.par [0]) 0 (Cont.i IntKind.u8 cs), AV.sl (Tag.par [1]) 0 (Cont.i IntKind.u8 ms), .any, .any, AV.b false] ++ anys 348
def c_laws_FnDays_2 (cs : List Int) (ms : List Int) : Env := [AV.sl (Tag.par [0]) 0 (Cont.i IntKind.u8 cs), AV.sl (Tag.par [1]) 0 (Cont.i IntKind.u8 ms), .any, .any, AV.b false, AV.i IntKind.i64 (IntKind.wrap IntKind.i64 (Int.tmod (IntKind.wrap IntKind.i64 (IntKind.wrap IntKind.i64 (atM ms 0 256 * 256) + atM ms 1 256)) 60000 - 30000)), AV.i IntKind.i64 (dyY ms), AV.i IntKind.i64 (dyM ms), AV.i IntKind.i64 (dyD ms), AV.b true, AV.i IntKind.i64 (dyN ms), AV.b true, AV.i IntKind.i64 (dyW ms), AV.b true, AV.i IntKind.i64 (dyW1 ms), AV.b true, AV.i IntKind.i64 (dyYw ms), AV.i IntKind.i64 (dyKw ms), AV.b true, AV.i IntKind.i64 (dyZw ms), AV.i IntKind.i64 (dyOw ms), AV.b true, AV.i IntKind.i64 (dyF ms), AV.b true, AV.i IntKind.i64 (dyL ms), AV.b true] ++ anys 327
def c_laws_FnDays_3 (cs : List Int) (ms : List Int) : Env := [AV.sl (Tag.par [0]) 0 (Cont.i IntKind.u8 cs), AV.sl (Tag.par [1]) 0 (Cont.i IntKind.u8 ms), .any, .any, AV.b false, AV.i IntKind.i64 (IntKind.wrap IntKind.i64 (Int.tmod (IntKind.wrap IntKind.i64 (IntKind.wrap IntKind.i64 (atM ms 0 256 * 256) + atM ms 1 256)) 60000 - 30000)), AV.i IntKind.i64 (dyY ms), AV.i IntKind.i64 (dyM ms), AV.i IntKind.i64 (dyD ms), AV.b true, AV.i IntKind.i64 (dyN ms), AV.b true, AV.i IntKind.i64 (dyW ms), AV.b true, AV.i IntKind.i64 (dyW1 ms), AV.b true, AV.i IntKind.i64 (dyYw ms), AV.i IntKind.i64 (dyKw ms), AV.b true, AV.i IntKind.i64 (dyZw ms), AV.i IntKind.i64 (dyOw ms), AV.b true, AV.i IntKind.i64 (dyF ms), AV.b true, AV.i IntKind.i64 (dyL ms), AV.b true] ++ anys 327
def c_laws_FnDays_4 (cs : List Int) (ms : List Int) : Env := [AV.sl (Tag.par [0]) 0 (Cont.i IntKind.u8 cs), AV.sl (Tag.par [1]) 0 (Cont.i IntKind.u8 ms), .any, .any, AV.b false, AV.i IntKind.i64 (IntKind.wrap IntKind.i64 (Int.tmod (IntKind.wrap IntKind.i64 (IntKind.wrap IntKind.i64 (atM ms 0 256 * 256) + atM ms 1 256)) 60000 - 30000)), AV.i IntKind.i64 (dyY ms), AV.i IntKind.i64 (dyM ms), AV.i IntKind.i64 (dyD ms), AV.b true, AV.i IntKind.i64 (dyN ms), AV.b true, AV.i IntKind.i64 (dyW ms), AV.b true, AV.i IntKind.i64 (dyW1 ms), AV.b true, AV.i IntKind.i64 (dyYw ms), AV.i IntKind.i64 (dyKw ms), AV.b true, AV.i IntKind.i64 (dyZw ms), AV.i IntKind.i64 (dyOw ms), AV.b true, AV.i IntKind.i64 (dyF ms), AV.b true, AV.i IntKind.i64 (dyL ms), AV.b true] ++ anys 327
def c_laws_FnDays_5 (cs : List Int) (ms : List Int) : Env := [AV.sl (Tag.par [0]) 0 (Cont.i IntKind.u8 cs), AV.sl (Tag.par [1]) 0 (Cont.i IntKind.u8 ms), .any, .any, AV.b false, AV.i IntKind.i64 (IntKind.wrap IntKind.i64 (Int.tmod (IntKind.wrap IntKind.i64 (IntKind.wrap IntKind.i64 (atM ms 0 256 * 256) + atM ms 1 256)) 60000 - 30000)), AV.i IntKind.i64 (dyY ms), AV.i IntKind.i64 (dyM ms), AV.i IntKind.i64 (dyD ms), AV.b true, AV.i IntKind.i64 (dyN ms), AV.b true, AV.i IntKind.i64 (dyW ms), AV.b true, AV.i IntKind.i64 (dyW1 ms), AV.b true, AV.i IntKind.i64 (dyYw ms), AV.i IntKind.i64 (dyKw ms), AV.b true, AV.i IntKind.i64 (dyZw ms), AV.i IntKind.i64 (dyOw ms), AV.b true, AV.i IntKind.i64 (dyF ms), AV.b true, AV.i IntKind.i64 (dyL ms), AV.b true, AV.i IntKind.i64 (IntKind.wrap IntKind.i64 (1 + IntKind.wrap IntKind.i64 (Int.tdiv (IntKind.wrap IntKind.i64 (dyD ms - 1)) 7))), AV.i IntKind.i64 (dyN ms), AV.b true, AV.i IntKind.i64 (dyE ms), AV.b true, AV.i IntKind.i64 6, AV.b true, AV.i IntKind.i64 (dyMa ms), AV.b true] ++ anys 318
def c_laws_FnDays_6 (cs : List Int) (ms : List Int) : Env := [AV.sl (Tag.par [0]) 0 (Cont.i IntKind.u8 cs), AV.sl (Tag.par [1]) 0 (Cont.i IntKind.u8 ms), .any, .any, AV.b false, AV.i IntKind.i64 (IntKind.wrap IntKind.i64 (Int.tmod (IntKind.wrap IntKind.i64 (IntKind.wrap IntKind.i64 (atM ms 0 256 * 256) + atM ms 1 256)) 60000 - 30000)), AV.i IntKind.i64 (dyY ms), AV.i IntKind.i64 (dyM ms), AV.i IntKind.i64 (dyD ms), AV.b true, AV.i IntKind.i64 (dyN ms), AV.b true, AV.i IntKind.i64 (dyW ms), AV.b true, AV.i IntKind.i64 (dyW1 ms), AV.b true, AV.i IntKind.i64 (dyYw ms), AV.i IntKind.i64 (dyKw ms), AV.b true, AV.i IntKind.i64 (dyZw ms), AV.i IntKind.i64 (dyOw ms), AV.b true, AV.i IntKind.i64 (dyF ms), AV.b true, AV.i IntKind.i64 (dyL ms), AV.b true, AV.i IntKind.i64 (IntKind.wrap IntKind.i64 (1 + IntKind.wrap IntKind.i64 (Int.tdiv (IntKind.wrap IntKind.i64 (dyD ms - 1)) 7))), AV.i IntKind.i64 (dyN ms), AV.b true, AV.i IntKind.i64 (dyE ms), AV.b true, AV.i IntKind.i64 6, AV.b true, AV.i IntKind.i64 (dyMa ms), AV.b true] ++ anys 318

set_option maxHeartbeats 4000000 in
theorem q_laws_FnDays_S0 {VC : FuncId → List AV → AV → Prop} {g_laws_r8Long g_laws_r8At g_impl_DateOf g_impl_DayOf g_impl_WeekdayOf g_impl_WeekOf g_impl_LongOfMonth g_impl_IsLeap g_impl_WeekdayIn g_impl_EasterOf g_impl_WorkDayBehind g_impl_WorkDays : FuncId} (cs : List Int) (ms : List Int) {Q_ : Option AV × Env → Prop} (ht : T.ok Q_ (
      T.ob (VC g_laws_r8Long [AV.sl (Tag.par [0]) 0 (Cont.i IntKind.u8 cs), AV.sl (Tag.par [1]) 0 (Cont.i IntKind.u8 ms)] (AV.b (decide ((↑(List.length cs) : Int) > 48) || decide ((↑(List.length ms) : Int) > 48))))
        (T.ite (decide ((↑(List.length cs) : Int) > 48) || decide ((↑(List.length ms) : Int) > 48)) (T.leaf (some (AV.b true), [])) (T.leaf (none, c_laws_FnDays_1 cs ms))))) :
    T.ok Q_ (evS VC ps_laws_FnDays [.t 4] (.b true) ⟨oc_laws_FnDays cs ms, fun _ _ => none⟩ (front 2 (b_laws_FnDays g_laws_r8Long g_laws_r8At g_impl_DateOf g_impl_DayOf g_impl_WeekdayOf g_impl_WeekOf g_impl_LongOfMonth g_impl_IsLeap g_impl_WeekdayIn g_impl_EasterOf g_impl_WorkDayBehind g_impl_WorkDays)) (startEnv 353 [PU [0] cs, PU [1] ms])) := evS_of (by kernel_rfl) ht

set_option maxHeartbeats 4000000 in
theorem q_laws_FnDays_S1 {VC : FuncId → List AV → AV → Prop} {g_laws_r8Long g_laws_r8At g_impl_DateOf g_impl_DayOf g_impl_WeekdayOf g_impl_WeekOf g_impl_LongOfMonth g_impl_IsLeap g_impl_WeekdayIn g_impl_EasterOf g_impl_WorkDayBehind g_impl_WorkDays : FuncId} (cs : List Int) (ms : List Int) {Q_ : Option AV × Env → Prop} (ht : T.ok Q_ (
      T.ob (VC g_laws_r8At [AV.sl (Tag.par [0]) 0 (Cont.i IntKind.u8 ms), AV.i IntKind.i64 0, AV.i IntKind.i64 256] (AV.i IntKind.i64 (atM ms 0 256)))
        (T.ob (VC g_laws_r8At [AV.sl (Tag.par [0]) 0 (Cont.i IntKind.u8 ms), AV.i IntKind.i64 1, AV.i IntKind.i64 256] (AV.i IntKind.i64 (atM ms 1 256)))
          (T.ob ((60000 : Int) ≠ 0)
            (T.ob
              (VC g_impl_DateOf [AV.i IntKind.i64 (IntKind.wrap IntKind.i64 (Int.tmod (IntKind.wrap IntKind.i64 (IntKind.wrap IntKind.i64 (atM ms 0 256 * 256) + atM ms 1 256)) 60000 - 30000))]
                (AV.tup [AV.i IntKind.i64 (dyY ms), AV.i IntKind.i64 (dyM ms), AV.i IntKind.i64 (dyD ms), AV.b true]))
              (T.ob (VC g_impl_DayOf [AV.i IntKind.i64 (dyY ms), AV.i IntKind.i64 (dyM ms), AV.i IntKind.i64 (dyD ms)] (AV.tup [AV.i IntKind.i64 (dyN ms), AV.b true]))
                (T.ob
                  (VC g_impl_WeekdayOf [AV.i IntKind.i64 (IntKind.wrap IntKind.i64 (Int.tmod (IntKind.wrap IntKind.i64 (IntKind.wrap IntKind.i64 (atM ms 0 256 * 256) + atM ms 1 256)) 60000 - 30000))]
                    (AV.tup [AV.i IntKind.i64 (dyW ms), AV.b true]))
                  (T.ob
                    (VC g_impl_WeekdayOf
                      [AV.i IntKind.i64 (IntKind.wrap IntKind.i64 (IntKind.wrap IntKind.i64 (Int.tmod (IntKind.wrap IntKind.i64 (IntKind.wrap IntKind.i64 (atM ms 0 256 * 256) + atM ms 1 256)) 60000 - 30000) + 1))]
                      (AV.tup [AV.i IntKind.i64 (dyW1 ms), AV.b true]))
                    (T.ob
                      (VC g_impl_WeekOf [AV.i IntKind.i64 (IntKind.wrap IntKind.i64 (Int.tmod (IntKind.wrap IntKind.i64 (IntKind.wrap IntKind.i64 (atM ms 0 256 * 256) + atM ms 1 256)) 60000 - 30000))]
                        (AV.tup [AV.i IntKind.i64 (dyYw ms), AV.i IntKind.i64 (dyKw ms), AV.b true]))
                      (T.ob
                        (VC g_impl_WeekOf
                          [AV.i IntKind.i64 (IntKind.wrap IntKind.i64 (IntKind.wrap IntKind.i64 (Int.tmod (IntKind.wrap IntKind.i64 (IntKind.wrap IntKind.i64 (atM ms 0 256 * 256) + atM ms 1 256)) 60000 - 30000) + 7))]
                          (AV.tup [AV.i IntKind.i64 (dyZw ms), AV.i IntKind.i64 (dyOw ms), AV.b true]))
                        (T.ob (VC g_impl_DayOf [AV.i IntKind.i64 (dyY ms), AV.i IntKind.i64 (dyM ms), AV.i IntKind.i64 1] (AV.tup [AV.i IntKind.i64 (dyF ms), AV.b true]))
                          (T.ob (VC g_impl_LongOfMonth [AV.i IntKind.i64 (dyY ms), AV.i IntKind.i64 (dyM ms)] (AV.tup [AV.i IntKind.i64 (dyL ms), AV.b true])) (T.leaf (none, c_laws_FnDays_2 cs ms)))))))))))))) :
    T.ok Q_ (evS VC ps_laws_FnDays [.t 4] (.b true) ⟨oc_laws_FnDays cs ms, fun _ _ => none⟩ (front 9 (rest 2 (b_laws_FnDays g_laws_r8Long g_laws_r8At g_impl_DateOf g_impl_DayOf g_impl_WeekdayOf g_impl_WeekOf g_impl_LongOfMonth g_impl_IsLeap g_impl_WeekdayIn g_impl_EasterOf g_impl_WorkDayBehind g_impl_WorkDays))) (c_laws_FnDays_1 cs ms)) := evS_of (by kernel_rfl) ht

set_option maxHeartbeats 4000000 in
theorem q_laws_FnDays_S2 {VC : FuncId → List AV → AV → Prop} {g_laws_r8Long g_laws_r8At g_impl_DateOf g_impl_DayOf g_impl_WeekdayOf g_impl_WeekOf g_impl_LongOfMonth g_impl_IsLeap g_impl_WeekdayIn g_impl_EasterOf g_impl_WorkDayBehind g_impl_WorkDays : FuncId} (cs : List Int) (ms : List Int) {Q_ : Option AV × Env → Prop} (ht : T.ok Q_ (
      T.ite false (T.leaf (some (AV.b false), []))
        (T.ite false (T.leaf (some (AV.b false), []))
          (T.ite false (T.leaf (some (AV.b false), []))
            (T.ite false (T.leaf (some (AV.b false), []))
              (T.ite false (T.leaf (some (AV.b false), []))
                (T.ite false (T.leaf (some (AV.b false), []))
                  (T.ite false (T.leaf (some (AV.b false), []))
                    (T.ite false (T.leaf (some (AV.b false), []))
                      (T.ite (dyN ms != IntKind.wrap IntKind.i64 (Int.tmod (IntKind.wrap IntKind.i64 (IntKind.wrap IntKind.i64 (atM ms 0 256 * 256) + atM ms 1 256)) 60000 - 30000)) (T.leaf (some (AV.b false), []))
                        (T.ob ((7 : Int) ≠ 0)
                          (T.ite (dyW1 ms != Int.tmod (IntKind.wrap IntKind.i64 (dyW ms + 1)) 7) (T.leaf (some (AV.b false), []))
                            (T.ite
                              (IntKind.wrap IntKind.i64 (IntKind.wrap IntKind.i64 (dyF ms + dyD ms) - 1) !=
                                IntKind.wrap IntKind.i64 (Int.tmod (IntKind.wrap IntKind.i64 (IntKind.wrap IntKind.i64 (atM ms 0 256 * 256) + atM ms 1 256)) 60000 - 30000))
                              (T.leaf (some (AV.b false), []))
                              (T.ite (decide (dyD ms > dyL ms)) (T.leaf (some (AV.b false), []))
                                (T.ite (decide (dyL ms < 28)) (T.leaf (some (AV.b false), []))
                                  (T.ite (decide (dyL ms > 31)) (T.leaf (some (AV.b false), []))
                                    (T.ite (decide (dyKw ms < 1)) (T.leaf (some (AV.b false), []))
                                      (T.ite (decide (dyKw ms > 53)) (T.leaf (some (AV.b false), []))
                                        (T.ite (dyYw ms == dyZw ms)
                                          (T.ite (dyOw ms != IntKind.wrap IntKind.i64 (dyKw ms + 1)) (T.leaf (some (AV.b false), []))
                                            (T.ite (dyYw ms != dyZw ms)
                                              (T.ite (dyZw ms != IntKind.wrap IntKind.i64 (dyYw ms + 1)) (T.leaf (some (AV.b false), []))
                                                (T.ite (dyOw ms != 1) (T.leaf (some (AV.b false), [])) (T.leaf (none, c_laws_FnDays_2 cs ms))))
                                              (T.leaf (none, c_laws_FnDays_2 cs ms))))
                                          (T.ite (dyYw ms != dyZw ms)
                                            (T.ite (dyZw ms != IntKind.wrap IntKind.i64 (dyYw ms + 1)) (T.leaf (some (AV.b false), []))
                                              (T.ite (dyOw ms != 1) (T.leaf (some (AV.b false), [])) (T.leaf (none, c_laws_FnDays_2 cs ms))))
                                            (T.leaf (none, c_laws_FnDays_2 cs ms)))))))))))))))))))))) :
    T.ok Q_ (evS VC ps_laws_FnDays [.t 4] (.b true) ⟨oc_laws_FnDays cs ms, fun _ _ => none⟩ (front 1 (rest 9 (rest 2 (b_laws_FnDays g_laws_r8Long g_laws_r8At g_impl_DateOf g_impl_DayOf g_impl_WeekdayOf g_impl_WeekOf g_impl_LongOfMonth g_impl_IsLeap g_impl_WeekdayIn g_impl_EasterOf g_impl_WorkDayBehind g_impl_WorkDays)))) (c_laws_FnDays_2 cs ms)) := evS_of (by kernel_rfl) ht

set_option maxHeartbeats 4000000 in
theorem q_laws_FnDays_S3 {VC : FuncId → List AV → AV → Prop} {g_laws_r8Long g_laws_r8At g_impl_DateOf g_impl_DayOf g_impl_WeekdayOf g_impl_WeekOf g_impl_LongOfMonth g_impl_IsLeap g_impl_WeekdayIn g_impl_EasterOf g_impl_WorkDayBehind g_impl_WorkDays : FuncId} (cs : List Int) (ms : List Int) {Q_ : Option AV × Env → Prop} (ht : T.ok Q_ (
      T.ite (dyM ms == 2) (T.ob (VC g_impl_IsLeap [AV.i IntKind.i64 (dyY ms)] (AV.b (leapM (dyY ms)))) (T.ite (!(dyL ms == 29) == leapM (dyY ms)) (T.leaf (some (AV.b false), [])) (T.leaf (none, c_laws_FnDays_2 cs ms))))
        (T.ite (!(dyL ms == 29) == false) (T.leaf (some (AV.b false), [])) (T.leaf (none, c_laws_FnDays_2 cs ms))))) :
    T.ok Q_ (evS VC ps_laws_FnDays [.t 4] (.b true) ⟨oc_laws_FnDays cs ms, fun _ _ => none⟩ (front 1 (rest 1 (rest 9 (rest 2 (b_laws_FnDays g_laws_r8Long g_laws_r8At g_impl_DateOf g_impl_DayOf g_impl_WeekdayOf g_impl_WeekOf g_impl_LongOfMonth g_impl_IsLeap g_impl_WeekdayIn g_impl_EasterOf g_impl_WorkDayBehind g_impl_WorkDays))))) (c_laws_FnDays_3 cs ms)) := evS_of (by kernel_rfl) ht

set_option maxHeartbeats 4000000 in
theorem q_laws_FnDays_S4 {VC : FuncId → List AV → AV → Prop} {g_laws_r8Long g_laws_r8At g_impl_DateOf g_impl_DayOf g_impl_WeekdayOf g_impl_WeekOf g_impl_LongOfMonth g_impl_IsLeap g_impl_WeekdayIn g_impl_EasterOf g_impl_WorkDayBehind g_impl_WorkDays : FuncId} (cs : List Int) (ms : List Int) {Q_ : Option AV × Env → Prop} (ht : T.ok Q_ (
      T.ob ((7 : Int) ≠ 0)
        (T.ob
          (VC g_impl_WeekdayIn
            [AV.i IntKind.i64 (dyY ms), AV.i IntKind.i64 (dyM ms), AV.i IntKind.i64 (dyW ms), AV.i IntKind.i64 (IntKind.wrap IntKind.i64 (1 + IntKind.wrap IntKind.i64 (Int.tdiv (IntKind.wrap IntKind.i64 (dyD ms - 1)) 7)))]
            (AV.tup [AV.i IntKind.i64 (dyN ms), AV.b true]))
          (T.ob (VC g_impl_EasterOf [AV.i IntKind.i64 (dyY ms)] (AV.tup [AV.i IntKind.i64 (dyE ms), AV.b true]))
            (T.ob (VC g_impl_WeekdayOf [AV.i IntKind.i64 (dyE ms)] (AV.tup [AV.i IntKind.i64 6, AV.b true]))
              (T.ob (VC g_impl_DayOf [AV.i IntKind.i64 (dyY ms), AV.i IntKind.i64 3, AV.i IntKind.i64 22] (AV.tup [AV.i IntKind.i64 (dyMa ms), AV.b true])) (T.leaf (none, c_laws_FnDays_5 cs ms)))))))) :
    T.ok Q_ (evS VC ps_laws_FnDays [.t 4] (.b true) ⟨oc_laws_FnDays cs ms, fun _ _ => none⟩ (front 5 (rest 1 (rest 1 (rest 9 (rest 2 (b_laws_FnDays g_laws_r8Long g_laws_r8At g_impl_DateOf g_impl_DayOf g_impl_WeekdayOf g_impl_WeekOf g_impl_LongOfMonth g_impl_IsLeap g_impl_WeekdayIn g_impl_EasterOf g_impl_WorkDayBehind g_impl_WorkDays)))))) (c_laws_FnDays_4 cs ms)) := evS_of (by kernel_rfl) ht

set_option maxHeartbeats 4000000 in
theorem q_laws_FnDays_S5 {VC : FuncId → List AV → AV → Prop} {g_laws_r8Long g_laws_r8At g_impl_DateOf g_impl_DayOf g_impl_WeekdayOf g_impl_WeekOf g_impl_LongOfMonth g_impl_IsLeap g_impl_WeekdayIn g_impl_EasterOf g_impl_WorkDayBehind g_impl_WorkDays : FuncId} (cs : List Int) (ms : List Int) {Q_ : Option AV × Env → Prop} (ht : T.ok Q_ (
      T.ite false (T.leaf (some (AV.b false), []))
        (T.ite false (T.leaf (some (AV.b false), []))
          (T.ite false (T.leaf (some (AV.b false), []))
            (T.ite false (T.leaf (some (AV.b false), []))
              (T.ite (dyN ms != IntKind.wrap IntKind.i64 (Int.tmod (IntKind.wrap IntKind.i64 (IntKind.wrap IntKind.i64 (atM ms 0 256 * 256) + atM ms 1 256)) 60000 - 30000)) (T.leaf (some (AV.b false), []))
                (T.ite false (T.leaf (some (AV.b false), []))
                  (T.ite (decide (dyE ms < dyMa ms)) (T.leaf (some (AV.b false), []))
                    (T.ite (decide (dyE ms > IntKind.wrap IntKind.i64 (dyMa ms + 34))) (T.leaf (some (AV.b false), [])) (T.leaf (none, c_laws_FnDays_5 cs ms))))))))))) :
    T.ok Q_ (evS VC ps_laws_FnDays [.t 4] (.b true) ⟨oc_laws_FnDays cs ms, fun _ _ => none⟩ (front 1 (rest 5 (rest 1 (rest 1 (rest 9 (rest 2 (b_laws_FnDays g_laws_r8Long g_laws_r8At g_impl_DateOf g_impl_DayOf g_impl_WeekdayOf g_impl_WeekOf g_impl_LongOfMonth g_impl_IsLeap g_impl_WeekdayIn g_impl_EasterOf g_impl_WorkDayBehind g_impl_WorkDays))))))) (c_laws_FnDays_5 cs ms)) := evS_of (by kernel_rfl) ht

set_option maxHeartbeats 4000000 in
theorem q_laws_FnDays_S6 {VC : FuncId → List AV → AV → Prop} {g_laws_r8Long g_laws_r8At g_impl_DateOf g_impl_DayOf g_impl_WeekdayOf g_impl_WeekOf g_impl_LongOfMonth g_impl_IsLeap g_impl_WeekdayIn g_impl_EasterOf g_impl_WorkDayBehind g_impl_WorkDays : FuncId} (cs : List Int) (ms : List Int) {Q_ : Option AV × Env → Prop} (ht : T.ok Q_ (
      T.ob (VC g_laws_r8At [AV.sl (Tag.par [0]) 0 (Cont.i IntKind.u8 ms), AV.i IntKind.i64 2, AV.i IntKind.i64 5] (AV.i IntKind.i64 (atM ms 2 5)))
        (T.ob (VC g_laws_r8At [AV.sl (Tag.par [0]) 0 (Cont.i IntKind.u8 ms), AV.i IntKind.i64 3, AV.i IntKind.i64 40] (AV.i IntKind.i64 (atM ms 3 40)))
          (T.ob
            (VC g_impl_WorkDayBehind
              [AV.i IntKind.i64 (IntKind.wrap IntKind.i64 (Int.tmod (IntKind.wrap IntKind.i64 (IntKind.wrap IntKind.i64 (atM ms 0 256 * 256) + atM ms 1 256)) 60000 - 30000)),
                AV.i IntKind.i64 (IntKind.wrap IntKind.i64 (1 + atM ms 3 40)),
                AV.sl (Tag.par [2]) 0
                  (Cont.i IntKind.i64
                    [IntKind.wrap IntKind.i64 (IntKind.wrap IntKind.i64 (Int.tmod (IntKind.wrap IntKind.i64 (IntKind.wrap IntKind.i64 (atM ms 0 256 * 256) + atM ms 1 256)) 60000 - 30000) + 1),
                      IntKind.wrap IntKind.i64
                        (IntKind.wrap IntKind.i64
                            (IntKind.wrap IntKind.i64 (IntKind.wrap IntKind.i64 (Int.tmod (IntKind.wrap IntKind.i64 (IntKind.wrap IntKind.i64 (atM ms 0 256 * 256) + atM ms 1 256)) 60000 - 30000) + 1) + atM ms 2 5) +
                          1)])]
              (AV.tup [AV.i IntKind.i64 (dyA ms), AV.b true]))
            (T.ob
              (VC g_impl_WorkDays
                [AV.i IntKind.i64 (IntKind.wrap IntKind.i64 (IntKind.wrap IntKind.i64 (Int.tmod (IntKind.wrap IntKind.i64 (IntKind.wrap IntKind.i64 (atM ms 0 256 * 256) + atM ms 1 256)) 60000 - 30000) + 1)),
                  AV.i IntKind.i64 (dyA ms),
                  AV.sl (Tag.par [2]) 0
                    (Cont.i IntKind.i64
                      [IntKind.wrap IntKind.i64 (IntKind.wrap IntKind.i64 (Int.tmod (IntKind.wrap IntKind.i64 (IntKind.wrap IntKind.i64 (atM ms 0 256 * 256) + atM ms 1 256)) 60000 - 30000) + 1),
                        IntKind.wrap IntKind.i64
                          (IntKind.wrap IntKind.i64
                              (IntKind.wrap IntKind.i64 (IntKind.wrap IntKind.i64 (Int.tmod (IntKind.wrap IntKind.i64 (IntKind.wrap IntKind.i64 (atM ms 0 256 * 256) + atM ms 1 256)) 60000 - 30000) + 1) + atM ms 2 5) +
                            1)])]
                (AV.tup [AV.i IntKind.i64 (dyK ms), AV.b true]))
              (T.ob
                (VC g_impl_WorkDays
                  [AV.i IntKind.i64 (IntKind.wrap IntKind.i64 (IntKind.wrap IntKind.i64 (Int.tmod (IntKind.wrap IntKind.i64 (IntKind.wrap IntKind.i64 (atM ms 0 256 * 256) + atM ms 1 256)) 60000 - 30000) + 1)),
                    AV.i IntKind.i64 (IntKind.wrap IntKind.i64 (dyA ms - 1)),
                    AV.sl (Tag.par [2]) 0
                      (Cont.i IntKind.i64
                        [IntKind.wrap IntKind.i64 (IntKind.wrap IntKind.i64 (Int.tmod (IntKind.wrap IntKind.i64 (IntKind.wrap IntKind.i64 (atM ms 0 256 * 256) + atM ms 1 256)) 60000 - 30000) + 1),
                          IntKind.wrap IntKind.i64
                            (IntKind.wrap IntKind.i64
                                (IntKind.wrap IntKind.i64 (IntKind.wrap IntKind.i64 (Int.tmod (IntKind.wrap IntKind.i64 (IntKind.wrap IntKind.i64 (atM ms 0 256 * 256) + atM ms 1 256)) 60000 - 30000) + 1) + atM ms 2 5) +
                              1)])]
                  (AV.tup [AV.i IntKind.i64 (dyK ms - 1), AV.b true]))
                (T.ob (VC g_impl_WeekdayOf [AV.i IntKind.i64 (dyA ms)] (AV.tup [AV.i IntKind.i64 (dyWa ms), AV.b true]))
                  (T.ite true
                    (T.ite true
                      (T.ite true
                        (T.ite true
                          (T.ite (dyK ms == IntKind.wrap IntKind.i64 (1 + atM ms 3 40))
                            (T.ite (dyK ms - 1 == IntKind.wrap IntKind.i64 (IntKind.wrap IntKind.i64 (1 + atM ms 3 40) - 1))
                              (T.ite (decide (dyWa ms < 5))
                                (T.ob
                                  ((0 : Int) ≤ 0 ∧
                                    0 <
                                      (↑(List.length
                                            [IntKind.wrap IntKind.i64 (IntKind.wrap IntKind.i64 (Int.tmod (IntKind.wrap IntKind.i64 (IntKind.wrap IntKind.i64 (atM ms 0 256 * 256) + atM ms 1 256)) 60000 - 30000) + 1),
                                              IntKind.wrap IntKind.i64
                                                (IntKind.wrap IntKind.i64
                                                    (IntKind.wrap IntKind.i64 (IntKind.wrap IntKind.i64 (Int.tmod (IntKind.wrap IntKind.i64 (IntKind.wrap IntKind.i64 (atM ms 0 256 * 256) + atM ms 1 256)) 60000 - 30000) + 1) +
                                                      atM ms 2 5) +
                                                  1)]) :
                                        Int))
                                  (T.ite
                                    (dyA ms !=
                                      List.getD
                                        [IntKind.wrap IntKind.i64 (IntKind.wrap IntKind.i64 (Int.tmod (IntKind.wrap IntKind.i64 (IntKind.wrap IntKind.i64 (atM ms 0 256 * 256) + atM ms 1 256)) 60000 - 30000) + 1),
                                          IntKind.wrap IntKind.i64
                                            (IntKind.wrap IntKind.i64
                                                (IntKind.wrap IntKind.i64 (IntKind.wrap IntKind.i64 (Int.tmod (IntKind.wrap IntKind.i64 (IntKind.wrap IntKind.i64 (atM ms 0 256 * 256) + atM ms 1 256)) 60000 - 30000) + 1) +
                                                  atM ms 2 5) +
                                              1)]
                                        0 0)
                                    (T.ob
                                      ((0 : Int) ≤ 1 ∧
                                        1 <
                                          (↑(List.length
                                                [IntKind.wrap IntKind.i64 (IntKind.wrap IntKind.i64 (Int.tmod (IntKind.wrap IntKind.i64 (IntKind.wrap IntKind.i64 (atM ms 0 256 * 256) + atM ms 1 256)) 60000 - 30000) + 1),
                                                  IntKind.wrap IntKind.i64
                                                    (IntKind.wrap IntKind.i64
                                                        (IntKind.wrap IntKind.i64
                                                            (IntKind.wrap IntKind.i64 (Int.tmod (IntKind.wrap IntKind.i64 (IntKind.wrap IntKind.i64 (atM ms 0 256 * 256) + atM ms 1 256)) 60000 - 30000) + 1) +
                                                          atM ms 2 5) +
                                                      1)]) :
                                            Int))
                                      (T.leaf
                                        (some
                                            (AV.b
                                              (dyA ms !=
                                                List.getD
                                                  [IntKind.wrap IntKind.i64 (IntKind.wrap IntKind.i64 (Int.tmod (IntKind.wrap IntKind.i64 (IntKind.wrap IntKind.i64 (atM ms 0 256 * 256) + atM ms 1 256)) 60000 - 30000) + 1),
                                                    IntKind.wrap IntKind.i64
                                                      (IntKind.wrap IntKind.i64
                                                          (IntKind.wrap IntKind.i64
                                                              (IntKind.wrap IntKind.i64 (Int.tmod (IntKind.wrap IntKind.i64 (IntKind.wrap IntKind.i64 (atM ms 0 256 * 256) + atM ms 1 256)) 60000 - 30000) + 1) +
                                                            atM ms 2 5) +
                                                        1)]
                                                  1 0)),
                                          [])))
                                    (T.leaf (some (AV.b false), []))))
                                (T.leaf (some (AV.b false), [])))
                              (T.leaf (some (AV.b false), [])))
                            (T.leaf (some (AV.b false), [])))
                          (T.leaf (some (AV.b false), [])))
                        (T.leaf (some (AV.b false), [])))
                      (T.leaf (some (AV.b false), [])))
                    (T.leaf (some (AV.b false), [])))))))))) :
    T.ok Q_ (evS VC ps_laws_FnDays [.t 4] (.b true) ⟨oc_laws_FnDays cs ms, fun _ _ => none⟩ (rest 1 (rest 5 (rest 1 (rest 1 (rest 9 (rest 2 (b_laws_FnDays g_laws_r8Long g_laws_r8At g_impl_DateOf g_impl_DayOf g_impl_WeekdayOf g_impl_WeekOf g_impl_LongOfMonth g_impl_IsLeap g_impl_WeekdayIn g_impl_EasterOf g_impl_WorkDayBehind g_impl_WorkDays))))))) (c_laws_FnDays_6 cs ms)) := evS_of (by kernel_rfl) ht

-- END laws_FnDays

theorem dy_byt {cs : List Int} (h : Cont.rng (.i .u8 cs)) : Byt cs ∧ cs.length ≤ maxLen := by
  refine ⟨fun i => ?_, h.1⟩
  by_cases hi : i < cs.length
  · have := h.2 (cs.getD i 0) (by simp [List.getD, hi])
    exact this
  · have : cs.getD i 0 = 0 := by simp [List.getD, List.getElem?_eq_none (Nat.le_of_not_lt hi)]
    rw [this]; omega
theorem dy_at {cs : List Int} (hc : Byt cs) {i n : Int} (hn : 1 < n) : 0 ≤ atM cs i n ∧ atM cs i n < n := by
  unfold atM
  split
  · omega
  · have h := hc i.toNat
    rw [Int.tmod_eq_emod_of_nonneg h.1]
    exact ⟨Int.emod_nonneg _ (by omega), Int.emod_lt_of_pos _ (by omega)⟩
theorem dyN_le {ms : List Int} (hm : Byt ms) : -30000 ≤ dyN ms ∧ dyN ms ≤ 29999 ∧ 0 ≤ atM ms 0 256 * 256 + atM ms 1 256 ∧ atM ms 0 256 * 256 + atM ms 1 256 ≤ 65535 := by
  have a := dy_at hm (i := 0) (n := 256) (by omega)
  have b := dy_at hm (i := 1) (n := 256) (by omega)
  unfold dyN
  rw [Int.tmod_eq_emod_of_nonneg (by omega)]
  omega

/-- the date of a day, and back -/
theorem dy_date {n : Int} (hn : -36524 ≤ n ∧ n ≤ 73048) : (1900 ≤ yoM n ∧ yoM n ≤ 2199) ∧ mfM (yoM n) (n - yearM (yoM n) + 1) ≤ 11 ∧
    1 ≤ n - yearM (yoM n) + 1 - cumM (yoM n) (mfM (yoM n) (n - yearM (yoM n) + 1)) ∧
    n - yearM (yoM n) + 1 - cumM (yoM n) (mfM (yoM n) (n - yearM (yoM n) + 1)) ≤ moM (yoM n) (1 + (mfM (yoM n) (n - yearM (yoM n) + 1) : Nat)) := by
  obtain ⟨y1, y2, y3, y4⟩ := yo_spec hn
  have st := year_step ⟨y1, y2⟩
  obtain ⟨m1, m2, m3, m4⟩ := mf_spec (y := yoM n) (d := n - yearM (yoM n) + 1) ⟨by omega, by omega⟩
  refine ⟨⟨y1, y2⟩, m1, m4, ?_⟩
  rw [cum_next] at m3
  omega
theorem dy_day {y : Int} {k : Nat} {d : Int} : dayM y (1 + (k : Int)) d = yearM y + d - 1 + cumM y k := by
  unfold dayM
  rw [show (1 + (k : Int) - 1).toNat = k from by omega]

/-- weeks follow one another -/
theorem dy_week {n : Int} (hn : -30000 ≤ n ∧ n ≤ 29999) :
    (1 ≤ (thuM n - yearM (yoM (thuM n))).tdiv 7 + 1 ∧ (thuM n - yearM (yoM (thuM n))).tdiv 7 + 1 ≤ 53) ∧ (1900 ≤ yoM (thuM n) ∧ yoM (thuM n) ≤ 2199) ∧ thuM (n + 7) = thuM n + 7 ∧
    ((yoM (thuM n + 7) = yoM (thuM n) ∧ (thuM n + 7 - yearM (yoM (thuM n + 7))).tdiv 7 + 1 = (thuM n - yearM (yoM (thuM n))).tdiv 7 + 1 + 1) ∨
     (yoM (thuM n + 7) = yoM (thuM n) + 1 ∧ (thuM n + 7 - yearM (yoM (thuM n + 7))).tdiv 7 + 1 = 1)) := by
  have wl := week_le n
  have e7 : thuM (n + 7) = thuM n + 7 := by unfold thuM; rw [week_eq, week_eq]; omega
  have ht : -30003 ≤ thuM n ∧ thuM n ≤ 30002 := by unfold thuM; omega
  generalize thuM n = t at *
  obtain ⟨y1, y2, y3, y4⟩ := yo_spec (n := t) ⟨by omega, by omega⟩
  obtain ⟨z1, z2, z3, z4⟩ := yo_spec (n := t + 7) ⟨by omega, by omega⟩
  have st := year_step ⟨y1, y2⟩
  have ll := longM_le (yoM t)
  have mono : yoM t ≤ yoM (t + 7) := (yo_le (n := t + 7) (y := yoM t) ⟨by omega, by omega⟩ ⟨y1, by omega⟩).1 (by omega)
  rw [Int.tdiv_eq_ediv_of_nonneg (show 0 ≤ t - yearM (yoM t) by omega), Int.tdiv_eq_ediv_of_nonneg (show 0 ≤ t + 7 - yearM (yoM (t + 7)) by omega)]
  refine ⟨by omega, ⟨y1, y2⟩, e7, ?_⟩
  by_cases hs : yoM (t + 7) = yoM t
  · left; rw [hs]; omega
  · right
    have h2 : yoM t + 1 ≤ 2199 := by omega
    have st2 := year_step (y := yoM t + 1) ⟨by omega, h2⟩
    have ll2 := longM_le (yoM t + 1)
    have h3 : yearM (yoM t + 1) ≤ t + 7 := (yo_le (n := t + 7) (y := yoM t + 1) ⟨by omega, by omega⟩ ⟨by omega, by omega⟩).2 (by omega)
    have h4 : yoM (t + 7) = yoM t + 1 := yo_is ⟨by omega, by omega⟩ ⟨by omega, h2⟩ h3 (by omega)
    rw [h4]
    omega
/-- the weekday of a day in its month -/
theorem dy_in {y m n F : Int} (hF : dayM y m 1 = F) {D : Int} (hD : F + D - 1 = n) (h1 : 1 ≤ D) : wiM y m (weekM n) (1 + (D - 1).tdiv 7) = n := by
  unfold wiM
  have w1 := week_le n
  have w2 := week_le F
  rw [hF, Int.tdiv_eq_ediv_of_nonneg (by omega), Int.tmod_eq_emod_of_nonneg (by omega), week_eq, week_eq]
  omega
theorem dy_easter : ∀ y, 1900 ≤ y ∧ y ≤ 2199 → weekM (dayM y ((eaS y).tdiv 31) ((eaS y).tmod 31 + 1)) = 6 ∧ dayM y 3 22 ≤ dayM y ((eaS y).tdiv 31) ((eaS y).tmod 31 + 1) ∧
    dayM y ((eaS y).tdiv 31) ((eaS y).tmod 31 + 1) ≤ dayM y 3 22 + 34 ∧ -36500 ≤ dayM y 3 22 ∧ dayM y 3 22 ≤ 73000 :=
  all_years (by decide +kernel)
/-- work days behind a day -/
theorem dy_work {n a c : Int} (hn : -30000 ≤ n ∧ n ≤ 29999) (ha : 0 ≤ a ∧ a < 5) (hc : 1 ≤ c ∧ c ≤ 40) (xs : List Int) (hx : xs = [n + 1, n + 2 + a]) :
    wbOk xs n c = true ∧ wdOk xs (n + 1) (n + wbJ xs n c) = true ∧ wdOk xs (n + 1) (n + wbJ xs n c - 1) = true ∧
    wdM xs (n + 1) (wdLen (n + 1) (n + wbJ xs n c)) = c ∧ wdM xs (n + 1) (wdLen (n + 1) (n + wbJ xs n c - 1)) = c - 1 ∧ weekM (n + wbJ xs n c) < 5 ∧ n + wbJ xs n c ≠ n + 1 ∧ n + wbJ xs n c ≠ n + 2 + a ∧ wbJ xs n c ≤ 2100 := by
  have hup : upM xs = true := by subst hx; simp [upM, allN]; omega
  have hl : xs.length ≤ 32 := by subst hx; simp
  have day : ∀ k : Int, -36524 ≤ k → k ≤ 73048 → isDayM k = true := fun k h1 h2 => by simp [isDayM, inM]; omega
  have hf : feastM xs = true := by
    unfold feastM
    rw [hup]
    subst hx
    simp [day (n + 1) (by omega) (by omega), day (n + 2 + a) (by omega) (by omega)]
  obtain ⟨j1, j2, j3⟩ := wb_spec (n := n) (c := c) hup hl ⟨by omega, by omega⟩
  have hwb : wbOk xs n c = isDayM (n + wbJ xs n c) := by
    unfold wbOk
    rw [hf, day n (by omega) (by omega), show inM c 1 1000 = true from by simp [inM]; omega]
    simp
  rw [hwb]
  generalize wbJ xs n c = J at *
  have w0 : wdM xs (n + 1) 0 = 0 := rfl
  have w1 : wdM xs (n + 1) 1 = 0 := by
    rw [wd_next, w0]
    have : workM xs (n + 1 + (0 : Nat)) = false := by subst hx; simp [workM]
    rw [this]; rfl
  have J2 : 2 ≤ J := by
    rcases Nat.lt_or_ge J 2 with h | h
    · have : J = 0 ∨ J = 1 := by omega
      rcases this with rfl | rfl
      · omega
      · omega
    · exact h
  obtain ⟨K, rfl⟩ : ∃ K, J = K + 1 := ⟨J - 1, by omega⟩
  have hK := j3 K (by omega)
  rw [wd_next] at j2
  have ob := one_bound (workM xs (n + 1 + K))
  have hw : workM xs (n + 1 + K) = true := by
    cases h : workM xs (n + 1 + K) with
    | true => rfl
    | false => rw [h] at j2; simp [one] at j2; omega
  have l1 : wdLen (n + 1) (n + (K + 1 : Nat)) = K + 1 := by unfold wdLen; omega
  have l2 : wdLen (n + 1) (n + (K + 1 : Nat) - 1) = K := by unfold wdLen; omega
  rw [l1, l2, wd_next]
  have o1 : one (workM xs (n + 1 + K)) = 1 := by rw [hw]; rfl
  have hw' : weekM (n + 1 + K) < 5 ∧ ∀ x, x ∈ xs → n + 1 + K ≠ x := by
    simp only [workM, Bool.and_eq_true, decide_eq_true_eq, Bool.not_eq_true', List.any_eq_false, beq_iff_eq] at hw
    exact ⟨hw.1, fun x hx h => hw.2 x hx h⟩
  have e : n + ((K + 1 : Nat) : Int) = n + 1 + K := by omega
  rw [e]
  have m1 : n + 1 + (K : Int) ≠ n + 1 := hw'.2 _ (by rw [hx]; simp)
  have m2 : n + 1 + (K : Int) ≠ n + 2 + a := hw'.2 _ (by rw [hx]; simp)
  refine ⟨?_, ?_, ?_, j2, by omega, hw'.1, m1, m2, j1⟩
  · exact day _ (by omega) (by omega)
  · unfold wdOk
    rw [hf, day (n + 1) (by omega) (by omega), day (n + 1 + K) (by omega) (by omega)]
    simp; omega
  · unfold wdOk
    rw [hf, day (n + 1) (by omega) (by omega), day (n + 1 + K - 1) (by omega) (by omega)]
    simp; omega

theorem k_laws_FnDays {P : Program} {f g1 g2 g3 g4 g5 g6 g7 g8 g9 g10 g11 g12 : FuncId} (h : Is_laws_FnDays P f g1 g2 g3 g4 g5 g6 g7 g8 g9 g10 g11 g12) (c1 : C_laws_r8Long P g1) (c2 : C_laws_r8At P g2) (c3 : C_impl_DateOf P g3) (c4 : C_impl_DayOf P g4) (c5 : C_impl_WeekdayOf P g5) (c6 : C_impl_WeekOf P g6)
    (c7 : C_impl_LongOfMonth P g7) (c8 : C_impl_IsLeap P g8) (c9 : C_impl_WeekdayIn P g9) (c10 : C_impl_EasterOf P g10) (c11 : C_impl_WorkDayBehind P g11) (c12 : C_impl_WorkDays P g12) : C_laws_FnDays P f := by
  intro cs ms
  refine VCall.rng (fun hr => ?_)
  obtain ⟨r1, r2, _⟩ := hr
  obtain ⟨hm, lm⟩ := dy_byt (cs := ms) r2
  obtain ⟨n1, n2, s1, s2⟩ := dyN_le hm
  have a0 := dy_at hm (i := 0) (n := 256) (by omega)
  have a1 := dy_at hm (i := 1) (n := 256) (by omega)
  have a2 := dy_at hm (i := 2) (n := 5) (by omega)
  have a3 := dy_at hm (i := 3) (n := 40) (by omega)
  have e0 : IntKind.wrap .i64 (Int.tmod (IntKind.wrap .i64 (IntKind.wrap .i64 (atM ms 0 256 * 256) + atM ms 1 256)) 60000 - 30000) = dyN ms := by
    rw [wrap64_id (n := atM ms 0 256 * 256) (by omega) (by omega), wrap64_id (n := atM ms 0 256 * 256 + atM ms 1 256) (by omega) (by omega)]
    exact wrap64_id (by show _ ≤ dyN ms; omega) (by show dyN ms ≤ _; omega)
  obtain ⟨dY, dm, d1, d2⟩ := dy_date (n := dyN ms) ⟨by omega, by omega⟩
  obtain ⟨k1, k2, k3, k4⟩ := dy_week (n := dyN ms) ⟨by omega, by omega⟩
  have eF : dyF ms = yearM (dyY ms) + cumM (dyY ms) (mfM (dyY ms) (dyN ms - yearM (dyY ms) + 1)) := by unfold dyF dyM; rw [dy_day]; omega
  have eB : dayM (dyY ms) (dyM ms) (dyD ms) = dyN ms := by unfold dyM; rw [dy_day]; unfold dyD; omega
  have hM : 1 ≤ dyM ms ∧ dyM ms ≤ 12 := by unfold dyM dyY; omega
  have hL := moM_le (dyY ms) (dyM ms) hM
  have hY : 1900 ≤ dyY ms ∧ dyY ms ≤ 2199 := dY
  have hD : 1 ≤ dyD ms ∧ dyD ms ≤ dyL ms := ⟨d1, d2⟩
  have hFD : dyF ms + dyD ms - 1 = dyN ms := by rw [eF]; unfold dyD; omega
  have hE := dy_easter (dyY ms) hY
  have hw := week_le (dyN ms)
  have hwW : dyW ms = weekM (dyN ms) := rfl
  have hW1 : Int.tmod (IntKind.wrap .i64 (dyW ms + 1)) 7 = dyW1 ms := by
    rw [wrap64_id (by omega) (by omega), hwW, Int.tmod_eq_emod_of_nonneg (by omega)]
    unfold dyW1
    rw [week_eq, week_eq]; omega
  have hK : 1 ≤ dyKw ms ∧ dyKw ms ≤ 53 := k1
  have hYw : 1900 ≤ dyYw ms ∧ dyYw ms ≤ 2199 := k2
  have hwk : (dyZw ms = dyYw ms ∧ dyOw ms = dyKw ms + 1) ∨ (dyZw ms = dyYw ms + 1 ∧ dyOw ms = 1) := by
    unfold dyZw dyOw dyYw dyKw
    rw [k3]; exact k4
  have wK : IntKind.wrap .i64 (dyKw ms + 1) = dyKw ms + 1 := wrap64_id (by omega) (by omega)
  have wY : IntKind.wrap .i64 (dyYw ms + 1) = dyYw ms + 1 := wrap64_id (by omega) (by omega)
  have wF : IntKind.wrap .i64 (IntKind.wrap .i64 (dyF ms + dyD ms) - 1) = dyN ms := by
    rw [wrap64_id (n := dyF ms + dyD ms) (by omega) (by omega), hFD]; exact wrap64_id (by omega) (by omega)
  have hC : 0 ≤ (dyD ms - 1).tdiv 7 ∧ (dyD ms - 1).tdiv 7 ≤ 4 := by
    have : dyL ms ≤ 31 := hL.2.1
    rw [Int.tdiv_eq_ediv_of_nonneg (by omega)]; omega
  have wC : IntKind.wrap .i64 (1 + IntKind.wrap .i64 (Int.tdiv (IntKind.wrap .i64 (dyD ms - 1)) 7)) = 1 + (dyD ms - 1).tdiv 7 := by
    have : dyL ms ≤ 31 := hL.2.1
    rw [wrap64_id (n := dyD ms - 1) (by omega) (by omega), wrap64_id (n := (dyD ms - 1).tdiv 7) (by omega) (by omega)]
    exact wrap64_id (by omega) (by omega)
  have hWI : wiM (dyY ms) (dyM ms) (dyW ms) (1 + (dyD ms - 1).tdiv 7) = dyN ms := dy_in (F := dyF ms) rfl hFD hD.1
  have eE : dyE ms = dayM (dyY ms) ((eaS (dyY ms)).tdiv 31) ((eaS (dyY ms)).tmod 31 + 1) := rfl
  have eMa : dyMa ms = dayM (dyY ms) 3 22 := rfl
  have wMa : IntKind.wrap .i64 (dyMa ms + 34) = dyMa ms + 34 := by rw [eMa]; exact wrap64_id (by omega) (by omega)
  have wk : IntKind.wrap .i64 (1 + atM ms 3 40) = dyK ms := wrap64_id (by omega) (by omega)
  have hk : 1 ≤ dyK ms ∧ dyK ms ≤ 40 := by unfold dyK; omega
  have wk1 : IntKind.wrap .i64 (dyK ms - 1) = dyK ms - 1 := wrap64_id (by omega) (by omega)
  have wn1 : IntKind.wrap .i64 (dyN ms + 1) = dyN ms + 1 := wrap64_id (by omega) (by omega)
  have wn7 : IntKind.wrap .i64 (dyN ms + 7) = dyN ms + 7 := wrap64_id (by omega) (by omega)
  have wx : IntKind.wrap .i64 (IntKind.wrap .i64 (dyN ms + 1 + atM ms 2 5) + 1) = dyN ms + 2 + atM ms 2 5 := by
    rw [wrap64_id (n := dyN ms + 1 + atM ms 2 5) (by omega) (by omega), wrap64_id (by omega) (by omega)]; omega
  obtain ⟨v1, v2, v3, v4, v5, v6, v7, v8, v9⟩ := dy_work (n := dyN ms) (a := atM ms 2 5) (c := dyK ms) ⟨n1, n2⟩ ⟨a2.1, a2.2⟩ hk (dyX ms) rfl
  have hA : dyA ms = dyN ms + wbJ (dyX ms) (dyN ms) (dyK ms) := rfl
  have wA : IntKind.wrap .i64 (dyA ms - 1) = dyA ms - 1 := wrap64_id (by omega) (by omega)
  have hX : [dyN ms + 1, dyN ms + 2 + atM ms 2 5] = dyX ms := rfl
  have lX : (dyX ms).length ≤ maxLen := by simp [dyX, maxLen_eq]
  have hWa : dyWa ms < 5 := v6
  have v4' : wdM (dyX ms) (dyN ms + 1) (wdLen (dyN ms + 1) (dyA ms)) = dyK ms := v4
  have v5' : wdM (dyX ms) (dyN ms + 1) (wdLen (dyN ms + 1) (dyA ms - 1)) = dyK ms - 1 := v5
  have u1 := c11 (dyN ms) (dyK ms) (dyX ms) lX
  rw [v1] at u1
  have u2 := c12 (dyN ms + 1) (dyA ms) (dyX ms) lX
  rw [hA, v2, ← hA] at u2
  have u3 := c12 (dyN ms + 1) (dyA ms - 1) (dyX ms) lX
  rw [hA, v3, ← hA] at u3
  refine h.call_cut (ps := ps_laws_FnDays) ?_
  refine cut_step (H := True) (σ1 := c_laws_FnDays_1 cs ms) (q_laws_FnDays_S0 cs ms ?_) (fun _ => ?_)
  · repeat' (first | with_reducible refine T.ok_ob ?_ (fun _ => ?_) | with_reducible refine T.ok_itrue ?_ | with_reducible refine T.ok_ifalse ?_ | with_reducible refine T.ok_ite (fun _ => ?_) (fun _ => ?_) | with_reducible refine T.ok_go ?_ | with_reducible refine T.ok_end ?_ | with_reducible refine T.ok_endL ?_)
    all_goals first | exact c1 _ _ | rfl | trivial
  refine cut_step (H := True) (σ1 := c_laws_FnDays_2 cs ms) (q_laws_FnDays_S1 cs ms ?_) (fun _ => ?_)
  · simp only [e0, wn1, wn7]
    repeat' (first | with_reducible refine T.ok_ob ?_ (fun _ => ?_) | with_reducible refine T.ok_itrue ?_ | with_reducible refine T.ok_ifalse ?_ | with_reducible refine T.ok_ite (fun _ => ?_) (fun _ => ?_) | with_reducible refine T.ok_go ?_ | with_reducible refine T.ok_end ?_ | with_reducible refine T.ok_endL ?_)
    · exact c2 _ _ _ (by omega) hm
    · exact c2 _ _ _ (by omega) hm
    · omega
    · exact c3 _ ⟨by omega, by omega⟩
    · have := c4 (dyY ms) (dyM ms) (dyD ms) hY hM hD
      rw [eB] at this
      exact this
    · exact c5 _ ⟨by omega, by omega⟩
    · exact c5 _ ⟨by omega, by omega⟩
    · exact c6 _ ⟨by omega, by omega⟩
    · exact c6 _ ⟨by omega, by omega⟩
    · exact c4 (dyY ms) (dyM ms) 1 hY hM ⟨by omega, by have := hL.1; omega⟩
    · exact c7 _ _ hY hM
    · trivial
  refine cut_step (H := True) (σ1 := c_laws_FnDays_3 cs ms) (q_laws_FnDays_S2 cs ms ?_) (fun _ => ?_)
  · simp only [e0, hW1, wK, wY, wF]
    have hl : 28 ≤ dyL ms ∧ dyL ms ≤ 31 := ⟨hL.1, hL.2.1⟩
    repeat' (first | with_reducible refine T.ok_ob ?_ (fun _ => ?_) | with_reducible refine T.ok_itrue ?_ | with_reducible refine T.ok_ifalse ?_ | with_reducible refine T.ok_ite (fun _ => ?_) (fun _ => ?_) | with_reducible refine T.ok_go ?_ | with_reducible refine T.ok_end ?_ | with_reducible refine T.ok_endL ?_)
    all_goals first | exact True.intro | exact T.ok_go True.intro | (exfalso; simp only [bne_self_eq_false, bne_iff_ne, ne_eq, beq_iff_eq, decide_eq_true_eq, decide_eq_false_iff_not, bne_eq_false_iff_eq, beq_eq_false_iff_ne, Bool.false_eq_true, not_true_eq_false] at *; done) | (exfalso; simp only [bne_iff_ne, ne_eq, beq_iff_eq, decide_eq_true_eq, decide_eq_false_iff_not, bne_eq_false_iff_eq, beq_eq_false_iff_ne, Bool.false_eq_true] at *; omega) | omega
  refine cut_step (H := True) (σ1 := c_laws_FnDays_4 cs ms) (q_laws_FnDays_S3 cs ms ?_) (fun _ => ?_)
  · have hl := hL.2.2
    change dyL ms = 29 ↔ dyM ms = 2 ∧ leapM (dyY ms) = true at hl
    by_cases hM2 : dyM ms = 2
    · have e1 : (dyM ms == 2) = true := by simp [hM2]
      have e2 : (dyL ms == 29) = leapM (dyY ms) := by
        rw [Bool.eq_iff_iff, beq_iff_eq]; rw [hl]; exact ⟨fun h => h.2, fun h => ⟨hM2, h⟩⟩
      rw [e1, e2]
      refine T.ok_ite (fun _ => T.ok_ob (c8 _ hY) (fun _ => T.ok_ite (fun hc => ?_) (fun _ => T.ok_go trivial))) (fun hc => by cases hc)
      cases h : leapM (dyY ms) <;> rw [h] at hc <;> cases hc
    · have e1 : (dyM ms == 2) = false := by simp [hM2]
      have e2 : (dyL ms == 29) = false := by rw [beq_eq_false_iff_ne]; intro h; exact hM2 (hl.1 h).1
      rw [e1, e2]
      refine T.ok_ite (fun hc => by cases hc) (fun _ => T.ok_ite (fun hc => by cases hc) (fun _ => T.ok_go trivial))
  refine cut_step (H := True) (σ1 := c_laws_FnDays_5 cs ms) (q_laws_FnDays_S4 cs ms ?_) (fun _ => ?_)
  · simp only [wC]
    repeat' (first | with_reducible refine T.ok_ob ?_ (fun _ => ?_) | with_reducible refine T.ok_itrue ?_ | with_reducible refine T.ok_ifalse ?_ | with_reducible refine T.ok_ite (fun _ => ?_) (fun _ => ?_) | with_reducible refine T.ok_go ?_ | with_reducible refine T.ok_end ?_ | with_reducible refine T.ok_endL ?_)
    · omega
    · have := c9 (dyY ms) (dyM ms) (dyW ms) (1 + (dyD ms - 1).tdiv 7) hY hM ⟨by omega, by omega⟩ ⟨by omega, by omega⟩ (by
        rw [hWI]
        have e1 : dayM (dyY ms) (dyM ms) 1 = dyF ms := rfl
        have e2 : moM (dyY ms) (dyM ms) = dyL ms := rfl
        omega)
      rw [hWI] at this
      exact this
    · exact c10 _ hY
    · have := c5 (dyE ms) ⟨by omega, by omega⟩
      rw [eE, hE.1, ← eE] at this
      exact this
    · exact c4 (dyY ms) 3 22 hY ⟨by omega, by omega⟩ ⟨by omega, by have := (moM_le (dyY ms) 3 ⟨by omega, by omega⟩).1; omega⟩
    · trivial
  refine cut_step (H := True) (σ1 := c_laws_FnDays_6 cs ms) (q_laws_FnDays_S5 cs ms ?_) (fun _ => ?_)
  · simp only [e0, wMa]
    repeat' (first | with_reducible refine T.ok_ob ?_ (fun _ => ?_) | with_reducible refine T.ok_itrue ?_ | with_reducible refine T.ok_ifalse ?_ | with_reducible refine T.ok_ite (fun _ => ?_) (fun _ => ?_) | with_reducible refine T.ok_go ?_ | with_reducible refine T.ok_end ?_ | with_reducible refine T.ok_endL ?_)
    all_goals first | exact True.intro | exact T.ok_go True.intro | (exfalso; simp only [bne_self_eq_false, bne_iff_ne, ne_eq, beq_iff_eq, decide_eq_true_eq, decide_eq_false_iff_not, bne_eq_false_iff_eq, beq_eq_false_iff_ne, Bool.false_eq_true, not_true_eq_false] at *; done) | (exfalso; simp only [bne_iff_ne, ne_eq, beq_iff_eq, decide_eq_true_eq, decide_eq_false_iff_not, bne_eq_false_iff_eq, beq_eq_false_iff_ne, Bool.false_eq_true] at *; omega)
  refine cut_last (q_laws_FnDays_S6 cs ms ?_)
  simp only [e0, wn1, wx, wk, wk1, wA, hX]
  have g0 : (dyX ms).getD 0 0 = dyN ms + 1 := rfl
  have g1 : (dyX ms).getD 1 0 = dyN ms + 2 + atM ms 2 5 := rfl
  have ll : ((dyX ms).length : Int) = 2 := rfl
  rw [g0, g1, ll]
  have m1 : (dyA ms != dyN ms + 1) = true := by rw [bne_iff_ne]; exact v7
  have m2 : (dyA ms != dyN ms + 2 + atM ms 2 5) = true := by rw [bne_iff_ne]; exact v8
  have m3 : (dyK ms == dyK ms) = true := beq_self_eq_true _
  have m4 : (dyK ms - 1 == dyK ms - 1) = true := beq_self_eq_true _
  have m5 : decide (dyWa ms < 5) = true := decide_eq_true hWa
  rw [m1, m2, m3, m4, m5]
  repeat' (first | with_reducible refine T.ok_ob ?_ (fun _ => ?_) | with_reducible refine T.ok_itrue ?_ | with_reducible refine T.ok_ifalse ?_ | with_reducible refine T.ok_ite (fun _ => ?_) (fun _ => ?_) | with_reducible refine T.ok_go ?_ | with_reducible refine T.ok_end ?_ | with_reducible refine T.ok_endL ?_)
  · exact c2 _ _ _ (by omega) hm
  · exact c2 _ _ _ (by omega) hm
  · exact u1
  · rw [if_pos rfl, v4'] at u2; exact u2
  · rw [if_pos rfl, v5'] at u3; exact u3
  · exact c5 _ ⟨by omega, by omega⟩
  all_goals first | rfl | omega

end Go.Proofs.LV
