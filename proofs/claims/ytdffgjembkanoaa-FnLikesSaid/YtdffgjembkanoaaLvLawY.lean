/- The law FnLikes. -/
import Derived.Test.YtdffgjembkanoaaLvCutX
import Derived.Test.YtdffgjembkanoaaLvFnN
import Derived.Test.YtdffgjembkanoaaLvFnO
import Derived.Test.YtdffgjembkanoaaLvLike
namespace Go.Proofs.LV
open Go Ieee
set_option linter.unusedVariables false
set_option linter.unusedSimpArgs false

def lkN (ms : List Int) : Int := 3 + btM ms 0 20
def lkA (cs ms : List Int) : List Nat := s3L cs 0 0 (lkN ms)
def lkB (ms : List Int) : List Nat := s3L ms 0 0 (lkN ms)
def lkM (ms : List Int) : Int := min (btM ms 1 8) (lkN ms - 1)
def lkK (cs ms : List Int) : Bool := likesOk (lkA cs ms) (lkM ms)
def lkS (cs ms : List Int) : List Nat := likesOut (lkA cs ms) (lkM ms)
def lkPk (cs ms : List Int) : Bool := plOk (lkA cs ms) (lkM ms)
def lkP (cs ms : List Int) : List Nat := if lkPk cs ms = true then plM (likesM (lkA cs ms) (lkM ms).toNat) (lkM ms).toNat else []
def lkCk (cs ms : List Int) : Bool := crossOk (lkA cs ms) (lkB ms) (lkM ms)
def lkC (cs ms : List Int) : List Nat := if lkCk cs ms = true then crossM (lkA cs ms) (lkB ms) (lkM ms).toNat else []
def lkDk (cs ms : List Int) : Bool := crossOk (lkB ms) (lkA cs ms) (lkM ms)
def lkD (cs ms : List Int) : List Nat := if lkDk cs ms = true then crossM (lkB ms) (lkA cs ms) (lkM ms).toNat else []
def lkLk (cs ms : List Int) : Bool := lsOk (lkA cs ms) (lkM ms)
def lkL (cs ms : List Int) : Nat := if lkLk cs ms = true then lsM (lkA cs ms) (likesM (lkA cs ms) (lkM ms).toNat) else 0
def lkR (ms : List Int) : List Nat := tab (lkN ms).toNat fun i => fofi .f32 i
def lkF (ms : List Int) : List Nat := tab (lkN ms).toNat fun i => fdiv .f32 (fneg .f32 (fofi .f32 i)) 1073741824
def lkU (ms : List Int) : Int := pairsM (lkR ms) (lkF ms)
def lkZ (ms : List Int) : Nat := rlM (lkR ms) (lkF ms)

-- FN laws_FnLikes
/-- laws.FnLikes: slots 326, results [.t 4]; calls [44:g_laws_b10Long, 46:g_laws_b10At, 50:g_spec_B10List, 53:g_spec_B10List, 55:g_laws_b10At, 62:g_spec_SelfLikes, 68:g_impl_SelfLikes, 74:g_spec_PartLikes, 80:g_impl_PartLikes, 87:g_spec_CrossLikes, 94:g_impl_CrossLikes, 101:g_impl_CrossLikes, 107:g_impl_LikeSum, 144:g_laws_b10Gap, 161:g_laws_b10Gap, 183:g_laws_b10Gap, 220:g_laws_b10Gap, 228:g_laws_b10Gap, 254:g_impl_PairCount, 260:g_impl_PairCount, 266:g_impl_PairCount, 272:g_impl_PairCount, 278:g_impl_RankLike, 284:g_spec_PairCount, 323:g_laws_b10Gap]; names [(code, 0), (more, 1), (code, 2), (more, 3), (n, 5), (a, 6), (b, 7), (most, 8), (_, 9), (known, 10), (self, 11), (one, 12), (_, 13), (can, 14), (parts, 15), (two, 16), (_, 17), (may, 18), (cross, 19), (three, 20), (back, 21), (four, 22), (sum, 23), (five, 24), (k, 25), (k, 26), (rising, 27), (falling, 28), (i, 29), (up, 30), (six, 31), (same, 32), (seven, 33), (other, 34), (eight, 35), (turned, 36), (nine, 37), (rank, 38), (ten, 39), (want, 40), (_, 41)] -/
def ps_laws_FnLikes : List Nat := [0, 1, 4, 5, 6, 7, 8, 10, 11, 12, 14, 15, 16, 18, 19, 20, 21, 22, 23, 24, 25, 26, 27, 28, 29, 30, 31, 32, 33, 34, 35, 36, 37, 38, 39, 40, 44, 132, 133, 150, 152, 153, 154, 162, 186, 187, 200, 202, 203, 204, 230, 236]
def lv_laws_FnLikes_L0 : List Nat := [5, 6, 7, 8, 11, 15, 16, 19, 20, 21, 152, 153]
def lv_laws_FnLikes_L2 : List Nat := [5, 6, 7, 19, 21, 202, 203]
def lv_laws_FnLikes_L4 : List Nat := [5, 6, 7, 27, 28, 29]
def b_laws_FnLikes_L0 (g_laws_b10Long g_laws_b10At g_spec_B10List g_spec_SelfLikes g_impl_SelfLikes g_spec_PartLikes g_impl_PartLikes g_spec_CrossLikes g_impl_CrossLikes g_impl_LikeSum g_laws_b10Gap g_impl_PairCount g_impl_RankLike g_spec_PairCount : FuncId) : VCode :=
  (.seq
   (.region false [
    ⟨some 154, (.bin .lss), [.t 153, .t 152], none⟩])
   (.seq
    (.cond (.t 154)
     .skip
     (.exit 0))
    (.seq
     (.block 1
      (.seq
       (.region false [
        ⟨some 155, .mv, [.t 153], none⟩,
        ⟨some 25, .mv, [.t 155], none⟩])
       (.seq
        (.region false [
         ⟨some 156, .mv, [.t 11], none⟩,
         ⟨some 157, .mv, [.t 25], none⟩,
         ⟨some 158, .iaddr, [.t 156, .t 157], none⟩,
         ⟨some 159, .load, [.t 158], none⟩,
         ⟨some 160, (.convF .f64), [.t 159], none⟩,
         ⟨some 161, (.call g_laws_b10Gap), [.t 160, .k (.f .f64 0)], none⟩,
         ⟨some 162, (.bin .gtr), [.t 161, .k (.f .f64 4607186922399644778)], none⟩])
        (.cond (.t 162)
         (.seq
          (.region false [
           ⟨some 4, .mv, [.k (.b false)], none⟩])
          .ret)
         .skip))))
     (.region false [
      ⟨some 163, (.bin .add), [.t 153, .k (.i .i64 1)], none⟩,
      ⟨some 153, .mv, [.t 163], none⟩]))))

def b_laws_FnLikes_L2 (g_laws_b10Long g_laws_b10At g_spec_B10List g_spec_SelfLikes g_impl_SelfLikes g_spec_PartLikes g_impl_PartLikes g_spec_CrossLikes g_impl_CrossLikes g_impl_LikeSum g_laws_b10Gap g_impl_PairCount g_impl_RankLike g_spec_PairCount : FuncId) : VCode :=
  (.seq
   (.region false [
    ⟨some 204, (.bin .lss), [.t 203, .t 202], none⟩])
   (.seq
    (.cond (.t 204)
     .skip
     (.exit 2))
    (.seq
     (.block 3
      (.seq
       (.region false [
        ⟨some 205, .mv, [.t 203], none⟩,
        ⟨some 26, .mv, [.t 205], none⟩])
       (.seq
        (.region true [
         ⟨some 206, .mv, [.t 19], none⟩,
         ⟨some 207, .mv, [.t 26], none⟩,
         ⟨some 208, .iaddr, [.t 206, .t 207], none⟩,
         ⟨some 209, .load, [.t 208], none⟩,
         ⟨some 210, (.convF .f64), [.t 209], none⟩,
         ⟨some 211, .mv, [.t 21], none⟩,
         ⟨some 212, .mv, [.t 21], none⟩,
         ⟨some 213, .len, [.t 212], none⟩,
         ⟨some 214, (.bin .sub), [.t 213, .k (.i .i64 1)], none⟩,
         ⟨some 215, .mv, [.t 26], none⟩,
         ⟨some 216, (.bin .sub), [.t 214, .t 215], none⟩,
         ⟨some 217, .iaddr, [.t 211, .t 216], none⟩,
         ⟨some 218, .load, [.t 217], none⟩,
         ⟨some 219, (.convF .f64), [.t 218], none⟩,
         ⟨some 220, (.call g_laws_b10Gap), [.t 210, .t 219], none⟩,
         ⟨some 221, (.bin .gtr), [.t 220, .k (.f .f64 4562254508917369340)], none⟩,
         ⟨some 222, .mv, [.t 221], none⟩,
         ⟨some 223, .mv, [.t 19], some (222, false)⟩,
         ⟨some 224, .mv, [.t 26], some (222, false)⟩,
         ⟨some 225, .iaddr, [.t 223, .t 224], some (222, false)⟩,
         ⟨some 226, .load, [.t 225], some (222, false)⟩,
         ⟨some 227, (.convF .f64), [.t 226], some (222, false)⟩,
         ⟨some 228, (.call g_laws_b10Gap), [.t 227, .k (.f .f64 0)], some (222, false)⟩,
         ⟨some 229, (.bin .gtr), [.t 228, .k (.f .f64 4607186922399644778)], some (222, false)⟩,
         ⟨some 230, .pick, [.t 222, .k (.b true), .t 229], none⟩])
        (.cond (.t 230)
         (.seq
          (.region false [
           ⟨some 4, .mv, [.k (.b false)], none⟩])
          .ret)
         .skip))))
     (.region false [
      ⟨some 231, (.bin .add), [.t 203, .k (.i .i64 1)], none⟩,
      ⟨some 203, .mv, [.t 231], none⟩]))))

def b_laws_FnLikes_L4 (g_laws_b10Long g_laws_b10At g_spec_B10List g_spec_SelfLikes g_impl_SelfLikes g_spec_PartLikes g_impl_PartLikes g_spec_CrossLikes g_impl_CrossLikes g_impl_LikeSum g_laws_b10Gap g_impl_PairCount g_impl_RankLike g_spec_PairCount : FuncId) : VCode :=
  (.seq
   (.seq
    (.region false [
     ⟨some 234, .mv, [.t 29], none⟩,
     ⟨some 235, .mv, [.t 5], none⟩,
     ⟨some 236, (.bin .lss), [.t 234, .t 235], none⟩])
    (.cond (.t 236)
     .skip
     (.exit 4)))
   (.seq
    (.block 5
     (.seq
      (.region false [
       ⟨some 239, .mv, [.t 27], none⟩,
       ⟨some 240, .mv, [.t 29], none⟩,
       ⟨some 241, (.convF .f32), [.t 240], none⟩,
       ⟨some 242, (.lit true (.f .f32 [])), [.t 241], none⟩,
       ⟨some 243, .app, [.t 239, .t 242], none⟩,
       ⟨some 27, .mv, [.t 243], none⟩])
      (.region false [
       ⟨some 244, .mv, [.t 28], none⟩,
       ⟨some 245, .mv, [.t 29], none⟩,
       ⟨some 246, (.convF .f32), [.t 245], none⟩,
       ⟨some 247, .neg, [.t 246], none⟩,
       ⟨some 248, (.bin .quo), [.t 247, .k (.f .f32 1073741824)], none⟩,
       ⟨some 249, (.lit true (.f .f32 [])), [.t 248], none⟩,
       ⟨some 250, .app, [.t 244, .t 249], none⟩,
       ⟨some 28, .mv, [.t 250], none⟩])))
    (.region false [
     ⟨some 237, .mv, [.t 29], none⟩,
     ⟨some 238, (.bin .add), [.t 237, .k (.i .i64 1)], none⟩,
     ⟨some 29, .mv, [.t 238], none⟩])))

def b_laws_FnLikes (g_laws_b10Long g_laws_b10At g_spec_B10List g_spec_SelfLikes g_impl_SelfLikes g_spec_PartLikes g_impl_PartLikes g_spec_CrossLikes g_impl_CrossLikes g_impl_LikeSum g_laws_b10Gap g_impl_PairCount g_impl_RankLike g_spec_PairCount : FuncId) : VCode :=
  (.seq
   (.region false [
    ⟨some 4, .mv, [.k (.b false)], none⟩])
   (.seq
    (.seq
     (.region false [
      ⟨some 42, .mv, [.t 0], none⟩,
      ⟨some 43, .mv, [.t 1], none⟩,
      ⟨some 44, (.call g_laws_b10Long), [.t 42, .t 43], none⟩])
     (.cond (.t 44)
      (.seq
       (.region false [
        ⟨some 4, .mv, [.k (.b true)], none⟩])
       .ret)
      .skip))
    (.seq
     (.region false [
      ⟨some 45, .mv, [.t 1], none⟩,
      ⟨some 46, (.call g_laws_b10At), [.t 45, .k (.i .i64 0), .k (.i .i64 20)], none⟩,
      ⟨some 47, (.bin .add), [.k (.i .i64 3), .t 46], none⟩,
      ⟨some 5, .mv, [.t 47], none⟩])
     (.seq
      (.region false [
       ⟨some 48, .mv, [.t 0], none⟩,
       ⟨some 49, .mv, [.t 5], none⟩,
       ⟨some 50, (.call g_spec_B10List), [.t 48, .t 49], none⟩,
       ⟨some 6, .mv, [.t 50], none⟩])
      (.seq
       (.region false [
        ⟨some 51, .mv, [.t 1], none⟩,
        ⟨some 52, .mv, [.t 5], none⟩,
        ⟨some 53, (.call g_spec_B10List), [.t 51, .t 52], none⟩,
        ⟨some 7, .mv, [.t 53], none⟩])
       (.seq
        (.region false [
         ⟨some 54, .mv, [.t 1], none⟩,
         ⟨some 55, (.call g_laws_b10At), [.t 54, .k (.i .i64 1), .k (.i .i64 8)], none⟩,
         ⟨some 56, .mv, [.t 5], none⟩,
         ⟨some 57, (.bin .sub), [.t 56, .k (.i .i64 1)], none⟩,
         ⟨some 58, .min, [.t 55, .t 57], none⟩,
         ⟨some 8, .mv, [.t 58], none⟩])
        (.seq
         (.region false [
          ⟨some 60, .mv, [.t 6], none⟩,
          ⟨some 61, .mv, [.t 8], none⟩,
          ⟨some 62, (.call g_spec_SelfLikes), [.t 60, .t 61], none⟩,
          ⟨some 59, .mv, [.t 62], none⟩,
          ⟨some 63, (.extract 0), [.t 59], none⟩,
          ⟨some 64, (.extract 1), [.t 59], none⟩,
          ⟨some 9, .mv, [.t 63], none⟩,
          ⟨some 10, .mv, [.t 64], none⟩])
         (.seq
          (.region false [
           ⟨some 66, .mv, [.t 6], none⟩,
           ⟨some 67, .mv, [.t 8], none⟩,
           ⟨some 68, (.call g_impl_SelfLikes), [.t 66, .t 67], none⟩,
           ⟨some 65, .mv, [.t 68], none⟩,
           ⟨some 69, (.extract 0), [.t 65], none⟩,
           ⟨some 70, (.extract 1), [.t 65], none⟩,
           ⟨some 11, .mv, [.t 69], none⟩,
           ⟨some 12, .mv, [.t 70], none⟩])
          (.seq
           (.region false [
            ⟨some 72, .mv, [.t 6], none⟩,
            ⟨some 73, .mv, [.t 8], none⟩,
            ⟨some 74, (.call g_spec_PartLikes), [.t 72, .t 73], none⟩,
            ⟨some 71, .mv, [.t 74], none⟩,
            ⟨some 75, (.extract 0), [.t 71], none⟩,
            ⟨some 76, (.extract 1), [.t 71], none⟩,
            ⟨some 13, .mv, [.t 75], none⟩,
            ⟨some 14, .mv, [.t 76], none⟩])
           (.seq
            (.region false [
             ⟨some 78, .mv, [.t 6], none⟩,
             ⟨some 79, .mv, [.t 8], none⟩,
             ⟨some 80, (.call g_impl_PartLikes), [.t 78, .t 79], none⟩,
             ⟨some 77, .mv, [.t 80], none⟩,
             ⟨some 81, (.extract 0), [.t 77], none⟩,
             ⟨some 82, (.extract 1), [.t 77], none⟩,
             ⟨some 15, .mv, [.t 81], none⟩,
             ⟨some 16, .mv, [.t 82], none⟩])
            (.seq
             (.region false [
              ⟨some 84, .mv, [.t 6], none⟩,
              ⟨some 85, .mv, [.t 7], none⟩,
              ⟨some 86, .mv, [.t 8], none⟩,
              ⟨some 87, (.call g_spec_CrossLikes), [.t 84, .t 85, .t 86], none⟩,
              ⟨some 83, .mv, [.t 87], none⟩,
              ⟨some 88, (.extract 0), [.t 83], none⟩,
              ⟨some 89, (.extract 1), [.t 83], none⟩,
              ⟨some 17, .mv, [.t 88], none⟩,
              ⟨some 18, .mv, [.t 89], none⟩])
             (.seq
              (.region false [
               ⟨some 91, .mv, [.t 6], none⟩,
               ⟨some 92, .mv, [.t 7], none⟩,
               ⟨some 93, .mv, [.t 8], none⟩,
               ⟨some 94, (.call g_impl_CrossLikes), [.t 91, .t 92, .t 93], none⟩,
               ⟨some 90, .mv, [.t 94], none⟩,
               ⟨some 95, (.extract 0), [.t 90], none⟩,
               ⟨some 96, (.extract 1), [.t 90], none⟩,
               ⟨some 19, .mv, [.t 95], none⟩,
               ⟨some 20, .mv, [.t 96], none⟩])
              (.seq
               (.region false [
                ⟨some 98, .mv, [.t 7], none⟩,
                ⟨some 99, .mv, [.t 6], none⟩,
                ⟨some 100, .mv, [.t 8], none⟩,
                ⟨some 101, (.call g_impl_CrossLikes), [.t 98, .t 99, .t 100], none⟩,
                ⟨some 97, .mv, [.t 101], none⟩,
                ⟨some 102, (.extract 0), [.t 97], none⟩,
                ⟨some 103, (.extract 1), [.t 97], none⟩,
                ⟨some 21, .mv, [.t 102], none⟩,
                ⟨some 22, .mv, [.t 103], none⟩])
               (.seq
                (.region false [
                 ⟨some 105, .mv, [.t 6], none⟩,
                 ⟨some 106, .mv, [.t 8], none⟩,
                 ⟨some 107, (.call g_impl_LikeSum), [.t 105, .t 106], none⟩,
                 ⟨some 104, .mv, [.t 107], none⟩,
                 ⟨some 108, (.extract 0), [.t 104], none⟩,
                 ⟨some 109, (.extract 1), [.t 104], none⟩,
                 ⟨some 23, .mv, [.t 108], none⟩,
                 ⟨some 24, .mv, [.t 109], none⟩])
                (.seq
                 (.seq
                  (.region false [
                   ⟨some 110, .mv, [.t 12], none⟩,
                   ⟨some 111, .mv, [.t 10], none⟩,
                   ⟨some 112, (.binb .neq), [.t 110, .t 111], none⟩,
                   ⟨some 113, .mv, [.t 112], none⟩,
                   ⟨some 114, .mv, [.t 16], some (113, false)⟩,
                   ⟨some 115, .mv, [.t 14], some (113, false)⟩,
                   ⟨some 116, (.binb .neq), [.t 114, .t 115], some (113, false)⟩,
                   ⟨some 117, .pick, [.t 113, .k (.b true), .t 116], none⟩,
                   ⟨some 118, .mv, [.t 117], none⟩,
                   ⟨some 119, .mv, [.t 20], some (118, false)⟩,
                   ⟨some 120, .mv, [.t 18], some (118, false)⟩,
                   ⟨some 121, (.binb .neq), [.t 119, .t 120], some (118, false)⟩,
                   ⟨some 122, .pick, [.t 118, .k (.b true), .t 121], none⟩,
                   ⟨some 123, .mv, [.t 122], none⟩,
                   ⟨some 124, .mv, [.t 22], some (123, false)⟩,
                   ⟨some 125, .mv, [.t 18], some (123, false)⟩,
                   ⟨some 126, (.binb .neq), [.t 124, .t 125], some (123, false)⟩,
                   ⟨some 127, .pick, [.t 123, .k (.b true), .t 126], none⟩,
                   ⟨some 128, .mv, [.t 127], none⟩,
                   ⟨some 129, .mv, [.t 24], some (128, false)⟩,
                   ⟨some 130, .mv, [.t 10], some (128, false)⟩,
                   ⟨some 131, (.binb .neq), [.t 129, .t 130], some (128, false)⟩,
                   ⟨some 132, .pick, [.t 128, .k (.b true), .t 131], none⟩])
                  (.cond (.t 132)
                   (.seq
                    (.region false [
                     ⟨some 4, .mv, [.k (.b false)], none⟩])
                    .ret)
                   .skip))
                 (.seq
                  (.seq
                   (.region false [
                    ⟨some 133, .mv, [.t 12], none⟩])
                   (.cond (.t 133)
                    (.seq
                     (.seq
                      (.region false [
                       ⟨some 134, .mv, [.t 11], none⟩,
                       ⟨some 135, .len, [.t 134], none⟩,
                       ⟨some 136, .mv, [.t 8], none⟩,
                       ⟨some 137, (.bin .add), [.t 136, .k (.i .i64 1)], none⟩,
                       ⟨some 138, (.bin .neq), [.t 135, .t 137], none⟩,
                       ⟨some 139, .mv, [.t 138], none⟩,
                       ⟨some 140, .mv, [.t 11], some (139, false)⟩,
                       ⟨some 141, .iaddr, [.t 140, .k (.i .i64 0)], some (139, false)⟩,
                       ⟨some 142, .load, [.t 141], some (139, false)⟩,
                       ⟨some 143, (.convF .f64), [.t 142], some (139, false)⟩,
                       ⟨some 144, (.call g_laws_b10Gap), [.t 143, .k (.f .f64 4607182418800017408)], some (139, false)⟩,
                       ⟨some 145, (.bin .gtr), [.t 144, .k (.f .f64 4562254508917369340)], some (139, false)⟩,
                       ⟨some 146, .pick, [.t 139, .k (.b true), .t 145], none⟩,
                       ⟨some 147, .mv, [.t 146], none⟩,
                       ⟨some 148, .mv, [.t 23], some (147, false)⟩,
                       ⟨some 149, (.bin .lss), [.t 148, .k (.f .f32 0)], some (147, false)⟩,
                       ⟨some 150, .pick, [.t 147, .k (.b true), .t 149], none⟩])
                      (.cond (.t 150)
                       (.seq
                        (.region false [
                         ⟨some 4, .mv, [.k (.b false)], none⟩])
                        .ret)
                       .skip))
                     (.seq
                      (.region false [
                       ⟨some 151, .mv, [.t 11], none⟩,
                       ⟨some 152, .len, [.t 151], none⟩,
                       ⟨some 153, .mv, [.k (.i .i64 0)], none⟩])
                      (.block 0 (.loop (b_laws_FnLikes_L0 g_laws_b10Long g_laws_b10At g_spec_B10List g_spec_SelfLikes g_impl_SelfLikes g_spec_PartLikes g_impl_PartLikes g_spec_CrossLikes g_impl_CrossLikes g_impl_LikeSum g_laws_b10Gap g_impl_PairCount g_impl_RankLike g_spec_PairCount)))))
                    .skip))
                  (.seq
                   (.seq
                    (.region true [
                     ⟨some 164, .mv, [.t 16], none⟩,
                     ⟨some 165, .mv, [.t 164], none⟩,
                     ⟨some 166, .mv, [.t 8], some (165, true)⟩,
                     ⟨some 167, (.bin .gtr), [.t 166, .k (.i .i64 0)], some (165, true)⟩,
                     ⟨some 168, .pick, [.t 165, .t 167, .k (.b false)], none⟩,
                     ⟨some 169, .mv, [.t 168], none⟩,
                     ⟨some 170, .mv, [.t 15], some (169, true)⟩,
                     ⟨some 171, .len, [.t 170], some (169, true)⟩,
                     ⟨some 172, .mv, [.t 8], some (169, true)⟩,
                     ⟨some 173, (.bin .neq), [.t 171, .t 172], some (169, true)⟩,
                     ⟨some 174, .mv, [.t 173], some (169, true)⟩,
                     ⟨some 175, .mv, [.t 15], some (174, false)⟩,
                     ⟨some 176, .iaddr, [.t 175, .k (.i .i64 0)], some (174, false)⟩,
                     ⟨some 177, .load, [.t 176], some (174, false)⟩,
                     ⟨some 178, (.convF .f64), [.t 177], some (174, false)⟩,
                     ⟨some 179, .mv, [.t 11], some (174, false)⟩,
                     ⟨some 180, .iaddr, [.t 179, .k (.i .i64 1)], some (174, false)⟩,
                     ⟨some 181, .load, [.t 180], some (174, false)⟩,
                     ⟨some 182, (.convF .f64), [.t 181], some (174, false)⟩,
                     ⟨some 183, (.call g_laws_b10Gap), [.t 178, .t 182], some (174, false)⟩,
                     ⟨some 184, (.bin .gtr), [.t 183, .k (.f .f64 4562254508917369340)], some (174, false)⟩,
                     ⟨some 185, .pick, [.t 174, .k (.b true), .t 184], some (169, true)⟩,
                     ⟨some 186, .pick, [.t 169, .t 185, .k (.b false)], none⟩])
                    (.cond (.t 186)
                     (.seq
                      (.region false [
                       ⟨some 4, .mv, [.k (.b false)], none⟩])
                      .ret)
                     .skip))
                   (.seq
                    (.seq
                     (.region false [
                      ⟨some 187, .mv, [.t 20], none⟩])
                     (.cond (.t 187)
                      (.seq
                       (.seq
                        (.region false [
                         ⟨some 188, .mv, [.t 19], none⟩,
                         ⟨some 189, .len, [.t 188], none⟩,
                         ⟨some 190, .mv, [.t 8], none⟩,
                         ⟨some 191, (.bin .mul), [.k (.i .i64 2), .t 190], none⟩,
                         ⟨some 192, (.bin .add), [.t 191, .k (.i .i64 1)], none⟩,
                         ⟨some 193, (.bin .neq), [.t 189, .t 192], none⟩,
                         ⟨some 194, .mv, [.t 193], none⟩,
                         ⟨some 195, .mv, [.t 21], some (194, false)⟩,
                         ⟨some 196, .len, [.t 195], some (194, false)⟩,
                         ⟨some 197, .mv, [.t 19], some (194, false)⟩,
                         ⟨some 198, .len, [.t 197], some (194, false)⟩,
                         ⟨some 199, (.bin .neq), [.t 196, .t 198], some (194, false)⟩,
                         ⟨some 200, .pick, [.t 194, .k (.b true), .t 199], none⟩])
                        (.cond (.t 200)
                         (.seq
                          (.region false [
                           ⟨some 4, .mv, [.k (.b false)], none⟩])
                          .ret)
                         .skip))
                       (.seq
                        (.region false [
                         ⟨some 201, .mv, [.t 19], none⟩,
                         ⟨some 202, .len, [.t 201], none⟩,
                         ⟨some 203, .mv, [.k (.i .i64 0)], none⟩])
                        (.block 2 (.loop (b_laws_FnLikes_L2 g_laws_b10Long g_laws_b10At g_spec_B10List g_spec_SelfLikes g_impl_SelfLikes g_spec_PartLikes g_impl_PartLikes g_spec_CrossLikes g_impl_CrossLikes g_impl_LikeSum g_laws_b10Gap g_impl_PairCount g_impl_RankLike g_spec_PairCount)))))
                      .skip))
                    (.seq
                     (.region false [
                      ⟨some 232, (.lit true (.f .f32 [])), [], none⟩,
                      ⟨some 27, .mv, [.t 232], none⟩])
                     (.seq
                      (.region false [
                       ⟨some 233, (.lit true (.f .f32 [])), [], none⟩,
                       ⟨some 28, .mv, [.t 233], none⟩])
                      (.seq
                       (.seq
                        (.region false [
                         ⟨some 29, .mv, [.k (.i .i64 0)], none⟩])
                        (.block 4 (.loop (b_laws_FnLikes_L4 g_laws_b10Long g_laws_b10At g_spec_B10List g_spec_SelfLikes g_impl_SelfLikes g_spec_PartLikes g_impl_PartLikes g_spec_CrossLikes g_impl_CrossLikes g_impl_LikeSum g_laws_b10Gap g_impl_PairCount g_impl_RankLike g_spec_PairCount))))
                       (.seq
                        (.region false [
                         ⟨some 252, .mv, [.t 27], none⟩,
                         ⟨some 253, .mv, [.t 28], none⟩,
                         ⟨some 254, (.call g_impl_PairCount), [.t 252, .t 253], none⟩,
                         ⟨some 251, .mv, [.t 254], none⟩,
                         ⟨some 255, (.extract 0), [.t 251], none⟩,
                         ⟨some 256, (.extract 1), [.t 251], none⟩,
                         ⟨some 30, .mv, [.t 255], none⟩,
                         ⟨some 31, .mv, [.t 256], none⟩])
                        (.seq
                         (.region false [
                          ⟨some 258, .mv, [.t 6], none⟩,
                          ⟨some 259, .mv, [.t 6], none⟩,
                          ⟨some 260, (.call g_impl_PairCount), [.t 258, .t 259], none⟩,
                          ⟨some 257, .mv, [.t 260], none⟩,
                          ⟨some 261, (.extract 0), [.t 257], none⟩,
                          ⟨some 262, (.extract 1), [.t 257], none⟩,
                          ⟨some 32, .mv, [.t 261], none⟩,
                          ⟨some 33, .mv, [.t 262], none⟩])
                         (.seq
                          (.region false [
                           ⟨some 264, .mv, [.t 6], none⟩,
                           ⟨some 265, .mv, [.t 7], none⟩,
                           ⟨some 266, (.call g_impl_PairCount), [.t 264, .t 265], none⟩,
                           ⟨some 263, .mv, [.t 266], none⟩,
                           ⟨some 267, (.extract 0), [.t 263], none⟩,
                           ⟨some 268, (.extract 1), [.t 263], none⟩,
                           ⟨some 34, .mv, [.t 267], none⟩,
                           ⟨some 35, .mv, [.t 268], none⟩])
                          (.seq
                           (.region false [
                            ⟨some 270, .mv, [.t 7], none⟩,
                            ⟨some 271, .mv, [.t 6], none⟩,
                            ⟨some 272, (.call g_impl_PairCount), [.t 270, .t 271], none⟩,
                            ⟨some 269, .mv, [.t 272], none⟩,
                            ⟨some 273, (.extract 0), [.t 269], none⟩,
                            ⟨some 274, (.extract 1), [.t 269], none⟩,
                            ⟨some 36, .mv, [.t 273], none⟩,
                            ⟨some 37, .mv, [.t 274], none⟩])
                           (.seq
                            (.region false [
                             ⟨some 276, .mv, [.t 27], none⟩,
                             ⟨some 277, .mv, [.t 28], none⟩,
                             ⟨some 278, (.call g_impl_RankLike), [.t 276, .t 277], none⟩,
                             ⟨some 275, .mv, [.t 278], none⟩,
                             ⟨some 279, (.extract 0), [.t 275], none⟩,
                             ⟨some 280, (.extract 1), [.t 275], none⟩,
                             ⟨some 38, .mv, [.t 279], none⟩,
                             ⟨some 39, .mv, [.t 280], none⟩])
                            (.seq
                             (.region false [
                              ⟨some 282, .mv, [.t 6], none⟩,
                              ⟨some 283, .mv, [.t 6], none⟩,
                              ⟨some 284, (.call g_spec_PairCount), [.t 282, .t 283], none⟩,
                              ⟨some 281, .mv, [.t 284], none⟩,
                              ⟨some 285, (.extract 0), [.t 281], none⟩,
                              ⟨some 286, (.extract 1), [.t 281], none⟩,
                              ⟨some 40, .mv, [.t 285], none⟩,
                              ⟨some 41, .mv, [.t 286], none⟩])
                             (.seq
                              (.region false [
                               ⟨some 287, .mv, [.t 31], none⟩,
                               ⟨some 288, .mv, [.t 287], none⟩,
                               ⟨some 289, .mv, [.t 33], some (288, true)⟩,
                               ⟨some 290, .pick, [.t 288, .t 289, .k (.b false)], none⟩,
                               ⟨some 291, .mv, [.t 290], none⟩,
                               ⟨some 292, .mv, [.t 35], some (291, true)⟩,
                               ⟨some 293, .pick, [.t 291, .t 292, .k (.b false)], none⟩,
                               ⟨some 294, .mv, [.t 293], none⟩,
                               ⟨some 295, .mv, [.t 37], some (294, true)⟩,
                               ⟨some 296, .pick, [.t 294, .t 295, .k (.b false)], none⟩,
                               ⟨some 297, .mv, [.t 296], none⟩,
                               ⟨some 298, .mv, [.t 39], some (297, true)⟩,
                               ⟨some 299, .pick, [.t 297, .t 298, .k (.b false)], none⟩,
                               ⟨some 300, .mv, [.t 299], none⟩,
                               ⟨some 301, .mv, [.t 30], some (300, true)⟩,
                               ⟨some 302, .mv, [.t 5], some (300, true)⟩,
                               ⟨some 303, .neg, [.t 302], some (300, true)⟩,
                               ⟨some 304, .mv, [.t 5], some (300, true)⟩,
                               ⟨some 305, (.bin .sub), [.t 304, .k (.i .i64 1)], some (300, true)⟩,
                               ⟨some 306, (.bin .mul), [.t 303, .t 305], some (300, true)⟩,
                               ⟨some 307, (.bin .quo), [.t 306, .k (.i .i64 2)], some (300, true)⟩,
                               ⟨some 308, (.bin .eql), [.t 301, .t 307], some (300, true)⟩,
                               ⟨some 309, .pick, [.t 300, .t 308, .k (.b false)], none⟩,
                               ⟨some 310, .mv, [.t 309], none⟩,
                               ⟨some 311, .mv, [.t 32], some (310, true)⟩,
                               ⟨some 312, .mv, [.t 40], some (310, true)⟩,
                               ⟨some 313, (.bin .eql), [.t 311, .t 312], some (310, true)⟩,
                               ⟨some 314, .pick, [.t 310, .t 313, .k (.b false)], none⟩,
                               ⟨some 315, .mv, [.t 314], none⟩,
                               ⟨some 316, .mv, [.t 34], some (315, true)⟩,
                               ⟨some 317, .mv, [.t 36], some (315, true)⟩,
                               ⟨some 318, (.bin .eql), [.t 316, .t 317], some (315, true)⟩,
                               ⟨some 319, .pick, [.t 315, .t 318, .k (.b false)], none⟩,
                               ⟨some 320, .mv, [.t 319], none⟩,
                               ⟨some 321, .mv, [.t 38], some (320, true)⟩,
                               ⟨some 322, (.convF .f64), [.t 321], some (320, true)⟩,
                               ⟨some 323, (.call g_laws_b10Gap), [.t 322, .k (.f .f64 13830554455654793216)], some (320, true)⟩,
                               ⟨some 324, (.bin .lss), [.t 323, .k (.f .f64 4562254508917369340)], some (320, true)⟩,
                               ⟨some 325, .pick, [.t 320, .t 324, .k (.b false)], none⟩,
                               ⟨some 4, .mv, [.t 325], none⟩])
                              .ret))))))))))))))))))))))))))))

abbrev Is_laws_FnLikes (P : Program) (g_f : FuncId) (g_laws_b10Long g_laws_b10At g_spec_B10List g_spec_SelfLikes g_impl_SelfLikes g_spec_PartLikes g_impl_PartLikes g_spec_CrossLikes g_impl_CrossLikes g_impl_LikeSum g_laws_b10Gap g_impl_PairCount g_impl_RankLike g_spec_PairCount : FuncId) : Prop := FnIs P g_f 326 [.t 4] (b_laws_FnLikes g_laws_b10Long g_laws_b10At g_spec_B10List g_spec_SelfLikes g_impl_SelfLikes g_spec_PartLikes g_impl_PartLikes g_spec_CrossLikes g_impl_CrossLikes g_impl_LikeSum g_laws_b10Gap g_impl_PairCount g_impl_RankLike g_spec_PairCount)

abbrev C_laws_FnLikes (P : Program) (g_f : FuncId) : Prop := ∀ (cs : List Int) (ms : List Int), VCall P g_f [PU [0] cs, PU [1] ms] (.b true)
def oc1_laws_FnLikes (as : List AV) : T AV := match as with | [.sl _ _ (.i _ cs), .sl _ _ (.i _ ms)] => .leaf (.b true) | _ => .fail
def oc_laws_FnLikes (cs : List Int) (ms : List Int) (d : Nat) (as : List AV) : T AV := match d with | 44 => oc1_laws_b10Long as | 46 => oc1_laws_b10At as | 50 => .leaf (OS 0 .f32 (lkA cs ms)) | 53 => .leaf (OS 0 .f32 (lkB ms)) | 55 => oc1_laws_b10At as | 62 => .leaf (.tup [OS 0 .f32 (lkS cs ms), .b (lkK cs ms)]) | 68 => .leaf (.tup [OS 0 .f32 (lkS cs ms), .b (lkK cs ms)]) | 74 => .leaf (.tup [OS 0 .f32 (lkP cs ms), .b (lkPk cs ms)]) | 80 => .leaf (.tup [OS 0 .f32 (lkP cs ms), .b (lkPk cs ms)]) | 87 => .leaf (.tup [OS 0 .f32 (lkC cs ms), .b (lkCk cs ms)]) | 94 => .leaf (.tup [OS 0 .f32 (lkC cs ms), .b (lkCk cs ms)]) | 101 => .leaf (.tup [OS 0 .f32 (lkD cs ms), .b (lkDk cs ms)]) | 107 => .leaf (.tup [.f .f32 (lkL cs ms), .b (lkLk cs ms)]) | 144 => oc1_laws_b10Gap as | 161 => oc1_laws_b10Gap as | 183 => oc1_laws_b10Gap as | 220 => oc1_laws_b10Gap as | 228 => oc1_laws_b10Gap as | 254 => .leaf (.tup [.i .i64 (lkU ms), .b true]) | 260 => .leaf (.tup [.i .i64 (pairsM (lkA cs ms) (lkA cs ms)), .b true]) | 266 => .leaf (.tup [.i .i64 (pairsM (lkA cs ms) (lkB ms)), .b true]) | 272 => .leaf (.tup [.i .i64 (pairsM (lkB ms) (lkA cs ms)), .b true]) | 278 => .leaf (.tup [.f .f32 (lkZ ms), .b true]) | 284 => .leaf (.tup [.i .i64 (pairsM (lkA cs ms) (lkA cs ms)), .b true]) | 323 => oc1_laws_b10Gap as | _ => .fail
def c_laws_FnLikes_1 (cs : List Int) (ms : List Int) : Env := [AV.sl (Tag.par [0]) 0 (Cont.i IntKind.u8 cs), AV.sl (Tag.par [1]) 0 (Cont.i IntKind.u8 ms), .any, .any, AV.b false] ++ anys 321
def ks_laws_FnLikes_1 : List Nat := [0, 1, 4]
def c_laws_FnLikes_2 (cs : List Int) (ms : List Int) : Env := [AV.sl (Tag.par [0]) 0 (Cont.i IntKind.u8 cs), AV.sl (Tag.par [1]) 0 (Cont.i IntKind.u8 ms), .any, .any, AV.b false, AV.i IntKind.i64 (IntKind.wrap IntKind.i64 (3 + btM ms 0 20)), AV.sl (Tag.own 400) 0 (Cont.f FloatKind.f32 (lkA cs ms)), AV.sl (Tag.own 424) 0 (Cont.f FloatKind.f32 (lkB ms)), AV.i IntKind.i64 (bif decide (IntKind.wrap IntKind.i64 (IntKind.wrap IntKind.i64 (3 + btM ms 0 20) - 1) < btM ms 1 8) then IntKind.wrap IntKind.i64 (IntKind.wrap IntKind.i64 (3 + btM ms 0 20) - 1) else btM ms 1 8)] ++ anys 317
def ks_laws_FnLikes_2 : List Nat := [0, 1, 4, 5, 6, 7, 8]
def c_laws_FnLikes_3 (cs : List Int) (ms : List Int) : Env := [AV.sl (Tag.par [0]) 0 (Cont.i IntKind.u8 cs), AV.sl (Tag.par [1]) 0 (Cont.i IntKind.u8 ms), .any, .any, AV.b false, AV.i IntKind.i64 (IntKind.wrap IntKind.i64 (3 + btM ms 0 20)), AV.sl (Tag.own 400) 0 (Cont.f FloatKind.f32 (lkA cs ms)), AV.sl (Tag.own 424) 0 (Cont.f FloatKind.f32 (lkB ms)), AV.i IntKind.i64 (bif decide (IntKind.wrap IntKind.i64 (IntKind.wrap IntKind.i64 (3 + btM ms 0 20) - 1) < btM ms 1 8) then IntKind.wrap IntKind.i64 (IntKind.wrap IntKind.i64 (3 + btM ms 0 20) - 1) else btM ms 1 8), .any, AV.b (lkK cs ms), AV.sl (Tag.own 544) 0 (Cont.f FloatKind.f32 (lkS cs ms)), AV.b (lkK cs ms), .any, AV.b (lkPk cs ms), AV.sl (Tag.own 640) 0 (Cont.f FloatKind.f32 (lkP cs ms)), AV.b (lkPk cs ms), .any, AV.b (lkCk cs ms), AV.sl (Tag.own 752) 0 (Cont.f FloatKind.f32 (lkC cs ms)), AV.b (lkCk cs ms), AV.sl (Tag.own 808) 0 (Cont.f FloatKind.f32 (lkD cs ms)), AV.b (lkDk cs ms), AV.f FloatKind.f32 (lkL cs ms), AV.b (lkLk cs ms)] ++ anys 301
def ks_laws_FnLikes_3 : List Nat := [0, 1, 4, 5, 6, 7, 8, 10, 11, 12, 14, 15, 16, 18, 19, 20, 21, 22, 23, 24]
def c_laws_FnLikes_4 (cs : List Int) (ms : List Int) : Env := [AV.sl (Tag.par [0]) 0 (Cont.i IntKind.u8 cs), AV.sl (Tag.par [1]) 0 (Cont.i IntKind.u8 ms), .any, .any, AV.b false, AV.i IntKind.i64 (IntKind.wrap IntKind.i64 (3 + btM ms 0 20)), AV.sl (Tag.own 400) 0 (Cont.f FloatKind.f32 (lkA cs ms)), AV.sl (Tag.own 424) 0 (Cont.f FloatKind.f32 (lkB ms)), AV.i IntKind.i64 (bif decide (IntKind.wrap IntKind.i64 (IntKind.wrap IntKind.i64 (3 + btM ms 0 20) - 1) < btM ms 1 8) then IntKind.wrap IntKind.i64 (IntKind.wrap IntKind.i64 (3 + btM ms 0 20) - 1) else btM ms 1 8), .any, AV.b (lkK cs ms), AV.sl (Tag.own 544) 0 (Cont.f FloatKind.f32 (lkS cs ms)), AV.b (lkK cs ms), .any, AV.b (lkPk cs ms), AV.sl (Tag.own 640) 0 (Cont.f FloatKind.f32 (lkP cs ms)), AV.b (lkPk cs ms), .any, AV.b (lkCk cs ms), AV.sl (Tag.own 752) 0 (Cont.f FloatKind.f32 (lkC cs ms)), AV.b (lkCk cs ms), AV.sl (Tag.own 808) 0 (Cont.f FloatKind.f32 (lkD cs ms)), AV.b (lkDk cs ms), AV.f FloatKind.f32 (lkL cs ms), AV.b (lkLk cs ms)] ++ anys 301
def ks_laws_FnLikes_4 : List Nat := [0, 1, 4, 5, 6, 7, 8, 10, 11, 12, 14, 15, 16, 18, 19, 20, 21, 22, 23, 24]
def h_laws_FnLikes_L0 (cs : List Int) (ms : List Int) (v153 : Int) : Env := anys 5 ++ [AV.i IntKind.i64 (IntKind.wrap IntKind.i64 (3 + btM ms 0 20)), AV.sl (Tag.own 400) 0 (Cont.f FloatKind.f32 (lkA cs ms)), AV.sl (Tag.own 424) 0 (Cont.f FloatKind.f32 (lkB ms)), AV.i IntKind.i64 (bif decide (IntKind.wrap IntKind.i64 (IntKind.wrap IntKind.i64 (3 + btM ms 0 20) - 1) < btM ms 1 8) then IntKind.wrap IntKind.i64 (IntKind.wrap IntKind.i64 (3 + btM ms 0 20) - 1) else btM ms 1 8), .any, .any, AV.sl (Tag.own 544) 0 (Cont.f FloatKind.f32 (lkS cs ms)), .any, .any, .any, AV.sl (Tag.own 640) 0 (Cont.f FloatKind.f32 (lkP cs ms)), AV.b (lkPk cs ms), .any, .any, AV.sl (Tag.own 752) 0 (Cont.f FloatKind.f32 (lkC cs ms)), AV.b (lkCk cs ms), AV.sl (Tag.own 808) 0 (Cont.f FloatKind.f32 (lkD cs ms))] ++ anys 130 ++ [AV.i IntKind.i64 (↑(List.length (lkS cs ms)) : Int), .i IntKind.i64 v153] ++ anys 172
def c_laws_FnLikes_5 (cs : List Int) (ms : List Int) : Env := anys 5 ++ [AV.i IntKind.i64 (IntKind.wrap IntKind.i64 (3 + btM ms 0 20)), AV.sl (Tag.own 400) 0 (Cont.f FloatKind.f32 (lkA cs ms)), AV.sl (Tag.own 424) 0 (Cont.f FloatKind.f32 (lkB ms)), AV.i IntKind.i64 (bif decide (IntKind.wrap IntKind.i64 (IntKind.wrap IntKind.i64 (3 + btM ms 0 20) - 1) < btM ms 1 8) then IntKind.wrap IntKind.i64 (IntKind.wrap IntKind.i64 (3 + btM ms 0 20) - 1) else btM ms 1 8), .any, .any, AV.sl (Tag.own 544) 0 (Cont.f FloatKind.f32 (lkS cs ms)), .any, .any, .any, AV.sl (Tag.own 640) 0 (Cont.f FloatKind.f32 (lkP cs ms)), AV.b (lkPk cs ms), .any, .any, AV.sl (Tag.own 752) 0 (Cont.f FloatKind.f32 (lkC cs ms)), AV.b (lkCk cs ms), AV.sl (Tag.own 808) 0 (Cont.f FloatKind.f32 (lkD cs ms))] ++ anys 304
def ks_laws_FnLikes_5 : List Nat := [5, 6, 7, 8, 11, 15, 16, 19, 20, 21]
def c_laws_FnLikes_6 (cs : List Int) (ms : List Int) : Env := anys 5 ++ [AV.i IntKind.i64 (IntKind.wrap IntKind.i64 (3 + btM ms 0 20)), AV.sl (Tag.own 400) 0 (Cont.f FloatKind.f32 (lkA cs ms)), AV.sl (Tag.own 424) 0 (Cont.f FloatKind.f32 (lkB ms)), AV.i IntKind.i64 (bif decide (IntKind.wrap IntKind.i64 (IntKind.wrap IntKind.i64 (3 + btM ms 0 20) - 1) < btM ms 1 8) then IntKind.wrap IntKind.i64 (IntKind.wrap IntKind.i64 (3 + btM ms 0 20) - 1) else btM ms 1 8), .any, .any, AV.sl (Tag.own 544) 0 (Cont.f FloatKind.f32 (lkS cs ms)), .any, .any, .any, AV.sl (Tag.own 640) 0 (Cont.f FloatKind.f32 (lkP cs ms)), AV.b (lkPk cs ms), .any, .any, AV.sl (Tag.own 752) 0 (Cont.f FloatKind.f32 (lkC cs ms)), AV.b (lkCk cs ms), AV.sl (Tag.own 808) 0 (Cont.f FloatKind.f32 (lkD cs ms))] ++ anys 304
def ks_laws_FnLikes_6 : List Nat := [5, 6, 7, 8, 11, 15, 16, 19, 20, 21]
def h_laws_FnLikes_L2 (cs : List Int) (ms : List Int) (v203 : Int) : Env := anys 5 ++ [AV.i IntKind.i64 (IntKind.wrap IntKind.i64 (3 + btM ms 0 20)), AV.sl (Tag.own 400) 0 (Cont.f FloatKind.f32 (lkA cs ms)), AV.sl (Tag.own 424) 0 (Cont.f FloatKind.f32 (lkB ms))] ++ anys 11 ++ [AV.sl (Tag.own 752) 0 (Cont.f FloatKind.f32 (lkC cs ms)), .any, AV.sl (Tag.own 808) 0 (Cont.f FloatKind.f32 (lkD cs ms))] ++ anys 180 ++ [AV.i IntKind.i64 (↑(List.length (lkC cs ms)) : Int), .i IntKind.i64 v203] ++ anys 122
def c_laws_FnLikes_7 (cs : List Int) (ms : List Int) : Env := anys 5 ++ [AV.i IntKind.i64 (IntKind.wrap IntKind.i64 (3 + btM ms 0 20)), AV.sl (Tag.own 400) 0 (Cont.f FloatKind.f32 (lkA cs ms)), AV.sl (Tag.own 424) 0 (Cont.f FloatKind.f32 (lkB ms))] ++ anys 11 ++ [AV.sl (Tag.own 752) 0 (Cont.f FloatKind.f32 (lkC cs ms)), .any, AV.sl (Tag.own 808) 0 (Cont.f FloatKind.f32 (lkD cs ms))] ++ anys 304
def ks_laws_FnLikes_7 : List Nat := [5, 6, 7, 19, 21]
def h_laws_FnLikes_L4 (cs : List Int) (ms : List Int) (a : List Nat) (b : List Nat) (rising : List Nat) (falling : List Nat) (i : Int) : Env := anys 5 ++ [AV.i IntKind.i64 (IntKind.wrap IntKind.i64 (3 + btM ms 0 20)), .sl (Tag.own 400) 0 (.f FloatKind.f32 a), .sl (Tag.own 424) 0 (.f FloatKind.f32 b)] ++ anys 19 ++ [.sl (Tag.own 1856) 0 (.f FloatKind.f32 rising), .sl (Tag.own 1864) 0 (.f FloatKind.f32 falling), .i IntKind.i64 i] ++ anys 296
def c_laws_FnLikes_8 (cs : List Int) (ms : List Int) : Env := anys 5 ++ [AV.i IntKind.i64 (IntKind.wrap IntKind.i64 (3 + btM ms 0 20)), AV.sl (Tag.own 400) 0 (Cont.f FloatKind.f32 (lkA cs ms)), AV.sl (Tag.own 424) 0 (Cont.f FloatKind.f32 (lkB ms))] ++ anys 19 ++ [AV.sl (Tag.own 1856) 0 (Cont.f FloatKind.f32 (lkR ms)), AV.sl (Tag.own 1864) 0 (Cont.f FloatKind.f32 (lkF ms)), AV.i IntKind.i64 (lkN ms)] ++ anys 296
def ks_laws_FnLikes_8 : List Nat := [5, 6, 7, 27, 28, 29]
def c_laws_FnLikes_9 (cs : List Int) (ms : List Int) : Env := anys 5 ++ [AV.i IntKind.i64 (IntKind.wrap IntKind.i64 (3 + btM ms 0 20)), AV.sl (Tag.own 400) 0 (Cont.f FloatKind.f32 (lkA cs ms)), AV.sl (Tag.own 424) 0 (Cont.f FloatKind.f32 (lkB ms))] ++ anys 19 ++ [AV.sl (Tag.own 1856) 0 (Cont.f FloatKind.f32 (lkR ms)), AV.sl (Tag.own 1864) 0 (Cont.f FloatKind.f32 (lkF ms)), AV.i IntKind.i64 (lkN ms), AV.i IntKind.i64 (lkU ms), AV.b true, AV.i IntKind.i64 (pairsM (lkA cs ms) (lkA cs ms)), AV.b true, AV.i IntKind.i64 (pairsM (lkA cs ms) (lkB ms)), AV.b true, AV.i IntKind.i64 (pairsM (lkB ms) (lkA cs ms)), AV.b true, AV.f FloatKind.f32 (lkZ ms), AV.b true, AV.i IntKind.i64 (pairsM (lkA cs ms) (lkA cs ms))] ++ anys 285
def ks_laws_FnLikes_9 : List Nat := [5, 6, 7, 27, 28, 29, 30, 31, 32, 33, 34, 35, 36, 37, 38, 39, 40]

theorem q_laws_FnLikes_L0 {VC : FuncId → List AV → AV → Prop} {g_laws_b10Long g_laws_b10At g_spec_B10List g_spec_SelfLikes g_impl_SelfLikes g_spec_PartLikes g_impl_PartLikes g_spec_CrossLikes g_impl_CrossLikes g_impl_LikeSum g_laws_b10Gap g_impl_PairCount g_impl_RankLike g_spec_PairCount : FuncId} (cs : List Int) (ms : List Int) (v153 : Int) {e_ : Ex} {σ_ : Env} (ht : T.ok (fun x_ => x_ = (e_, σ_)) (
      T.ite (decide (v153 < (↑(List.length (lkS cs ms)) : Int)))
        (T.ob (0 ≤ v153 ∧ v153 < (↑(List.length (lkS cs ms)) : Int))
          (T.ob (fconvOk FloatKind.f32 FloatKind.f64 (List.getD (lkS cs ms) (Int.toNat v153) 0) = true)
            (T.ob
              (VC g_laws_b10Gap [AV.f FloatKind.f64 (fconv FloatKind.f32 FloatKind.f64 (List.getD (lkS cs ms) (Int.toNat v153) 0)), AV.f FloatKind.f64 0]
                (AV.f FloatKind.f64 (gapD (fconv FloatKind.f32 FloatKind.f64 (List.getD (lkS cs ms) (Int.toNat v153) 0)) 0)))
              (T.ite (fgt FloatKind.f64 (gapD (fconv FloatKind.f32 FloatKind.f64 (List.getD (lkS cs ms) (Int.toNat v153) 0)) 0) 4607186922399644778) (T.leaf (Ex.ret, anys 4 ++ AV.b false :: anys 321))
                (T.leaf (Ex.normal, h_laws_FnLikes_L0 cs ms (IntKind.wrap IntKind.i64 (v153 + 1))))))))
        (T.leaf (Ex.exit 0, h_laws_FnLikes_L0 cs ms v153)))) :
    Exec VC ps_laws_FnLikes (b_laws_FnLikes_L0 g_laws_b10Long g_laws_b10At g_spec_B10List g_spec_SelfLikes g_impl_SelfLikes g_spec_PartLikes g_impl_PartLikes g_spec_CrossLikes g_impl_CrossLikes g_impl_LikeSum g_laws_b10Gap g_impl_PairCount g_impl_RankLike g_spec_PairCount) (h_laws_FnLikes_L0 cs ms v153) e_ σ_ := evL_of (lv := lv_laws_FnLikes_L0) (rs := [4]) (O := ⟨oc_laws_FnLikes cs ms, fun _ _ => none⟩) (by kernel_rfl) ht

theorem q_laws_FnLikes_L2 {VC : FuncId → List AV → AV → Prop} {g_laws_b10Long g_laws_b10At g_spec_B10List g_spec_SelfLikes g_impl_SelfLikes g_spec_PartLikes g_impl_PartLikes g_spec_CrossLikes g_impl_CrossLikes g_impl_LikeSum g_laws_b10Gap g_impl_PairCount g_impl_RankLike g_spec_PairCount : FuncId} (cs : List Int) (ms : List Int) (v203 : Int) {e_ : Ex} {σ_ : Env} (ht : T.ok (fun x_ => x_ = (e_, σ_)) (
      T.ite (decide (v203 < (↑(List.length (lkC cs ms)) : Int)))
        (T.ob (0 ≤ v203 ∧ v203 < (↑(List.length (lkC cs ms)) : Int))
          (T.ob (fconvOk FloatKind.f32 FloatKind.f64 (List.getD (lkC cs ms) (Int.toNat v203) 0) = true)
            (T.ob
              (0 ≤ IntKind.wrap IntKind.i64 (IntKind.wrap IntKind.i64 ((↑(List.length (lkD cs ms)) : Int) - 1) - v203) ∧
                IntKind.wrap IntKind.i64 (IntKind.wrap IntKind.i64 ((↑(List.length (lkD cs ms)) : Int) - 1) - v203) < (↑(List.length (lkD cs ms)) : Int))
              (T.ob (fconvOk FloatKind.f32 FloatKind.f64 (List.getD (lkD cs ms) (Int.toNat (IntKind.wrap IntKind.i64 (IntKind.wrap IntKind.i64 ((↑(List.length (lkD cs ms)) : Int) - 1) - v203))) 0) = true)
                (T.ob
                  (VC g_laws_b10Gap
                    [AV.f FloatKind.f64 (fconv FloatKind.f32 FloatKind.f64 (List.getD (lkC cs ms) (Int.toNat v203) 0)),
                      AV.f FloatKind.f64 (fconv FloatKind.f32 FloatKind.f64 (List.getD (lkD cs ms) (Int.toNat (IntKind.wrap IntKind.i64 (IntKind.wrap IntKind.i64 ((↑(List.length (lkD cs ms)) : Int) - 1) - v203))) 0))]
                    (AV.f FloatKind.f64
                      (gapD (fconv FloatKind.f32 FloatKind.f64 (List.getD (lkC cs ms) (Int.toNat v203) 0))
                        (fconv FloatKind.f32 FloatKind.f64 (List.getD (lkD cs ms) (Int.toNat (IntKind.wrap IntKind.i64 (IntKind.wrap IntKind.i64 ((↑(List.length (lkD cs ms)) : Int) - 1) - v203))) 0)))))
                  (T.ite
                    (fgt FloatKind.f64
                      (gapD (fconv FloatKind.f32 FloatKind.f64 (List.getD (lkC cs ms) (Int.toNat v203) 0))
                        (fconv FloatKind.f32 FloatKind.f64 (List.getD (lkD cs ms) (Int.toNat (IntKind.wrap IntKind.i64 (IntKind.wrap IntKind.i64 ((↑(List.length (lkD cs ms)) : Int) - 1) - v203))) 0)))
                      4562254508917369340)
                    (T.leaf (Ex.ret, anys 4 ++ AV.b false :: anys 321))
                    (T.ob (0 ≤ v203 ∧ v203 < (↑(List.length (lkC cs ms)) : Int))
                      (T.ob (fconvOk FloatKind.f32 FloatKind.f64 (List.getD (lkC cs ms) (Int.toNat v203) 0) = true)
                        (T.ob
                          (VC g_laws_b10Gap [AV.f FloatKind.f64 (fconv FloatKind.f32 FloatKind.f64 (List.getD (lkC cs ms) (Int.toNat v203) 0)), AV.f FloatKind.f64 0]
                            (AV.f FloatKind.f64 (gapD (fconv FloatKind.f32 FloatKind.f64 (List.getD (lkC cs ms) (Int.toNat v203) 0)) 0)))
                          (T.ite (fgt FloatKind.f64 (gapD (fconv FloatKind.f32 FloatKind.f64 (List.getD (lkC cs ms) (Int.toNat v203) 0)) 0) 4607186922399644778) (T.leaf (Ex.ret, anys 4 ++ AV.b false :: anys 321))
                            (T.leaf (Ex.normal, h_laws_FnLikes_L2 cs ms (IntKind.wrap IntKind.i64 (v203 + 1))))))))))))))
        (T.leaf (Ex.exit 2, h_laws_FnLikes_L2 cs ms v203)))) :
    Exec VC ps_laws_FnLikes (b_laws_FnLikes_L2 g_laws_b10Long g_laws_b10At g_spec_B10List g_spec_SelfLikes g_impl_SelfLikes g_spec_PartLikes g_impl_PartLikes g_spec_CrossLikes g_impl_CrossLikes g_impl_LikeSum g_laws_b10Gap g_impl_PairCount g_impl_RankLike g_spec_PairCount) (h_laws_FnLikes_L2 cs ms v203) e_ σ_ := evL_of (lv := lv_laws_FnLikes_L2) (rs := [4]) (O := ⟨oc_laws_FnLikes cs ms, fun _ _ => none⟩) (by kernel_rfl) ht

theorem q_laws_FnLikes_L4 {VC : FuncId → List AV → AV → Prop} {g_laws_b10Long g_laws_b10At g_spec_B10List g_spec_SelfLikes g_impl_SelfLikes g_spec_PartLikes g_impl_PartLikes g_spec_CrossLikes g_impl_CrossLikes g_impl_LikeSum g_laws_b10Gap g_impl_PairCount g_impl_RankLike g_spec_PairCount : FuncId} (cs : List Int) (ms : List Int) (a : List Nat) (b : List Nat) (rising : List Nat) (falling : List Nat) (i : Int) {e_ : Ex} {σ_ : Env} (ht : T.ok (fun x_ => x_ = (e_, σ_)) (
      T.ite (decide (i < IntKind.wrap IntKind.i64 (3 + btM ms 0 20)))
        (T.ob True
          (T.ob (List.length rising + List.length [fofi FloatKind.f32 i] ≤ 4294967296)
            (T.ob True
              (T.ob True
                (T.ob (List.length falling + List.length [fdiv FloatKind.f32 (fneg FloatKind.f32 (fofi FloatKind.f32 i)) 1073741824] ≤ 4294967296)
                  (T.leaf
                    (Ex.normal, h_laws_FnLikes_L4 cs ms a b (rising ++ [fofi FloatKind.f32 i]) (falling ++ [fdiv FloatKind.f32 (fneg FloatKind.f32 (fofi FloatKind.f32 i)) 1073741824]) (IntKind.wrap IntKind.i64 (i + 1)))))))))
        (T.leaf (Ex.exit 4, h_laws_FnLikes_L4 cs ms a b rising falling i)))) :
    Exec VC ps_laws_FnLikes (b_laws_FnLikes_L4 g_laws_b10Long g_laws_b10At g_spec_B10List g_spec_SelfLikes g_impl_SelfLikes g_spec_PartLikes g_impl_PartLikes g_spec_CrossLikes g_impl_CrossLikes g_impl_LikeSum g_laws_b10Gap g_impl_PairCount g_impl_RankLike g_spec_PairCount) (h_laws_FnLikes_L4 cs ms a b rising falling i) e_ σ_ := evL_of (lv := lv_laws_FnLikes_L4) (rs := [4]) (O := ⟨oc_laws_FnLikes cs ms, fun _ _ => none⟩) (by kernel_rfl) ht

set_option maxHeartbeats 4000000 in
set_option maxRecDepth 100000 in
theorem q_laws_FnLikes_S0 {VC : FuncId → List AV → AV → Prop} {g_laws_b10Long g_laws_b10At g_spec_B10List g_spec_SelfLikes g_impl_SelfLikes g_spec_PartLikes g_impl_PartLikes g_spec_CrossLikes g_impl_CrossLikes g_impl_LikeSum g_laws_b10Gap g_impl_PairCount g_impl_RankLike g_spec_PairCount : FuncId} (cs : List Int) (ms : List Int) {Q_ : Option AV × Env → Prop} (ht : T.ok Q_ (
      T.ob (VC g_laws_b10Long [AV.sl (Tag.par [0]) 0 (Cont.i IntKind.u8 cs), AV.sl (Tag.par [1]) 0 (Cont.i IntKind.u8 ms)] (AV.b (decide ((↑(List.length cs) : Int) > 1048576) || decide ((↑(List.length ms) : Int) > 1048576))))
        (T.ite (decide ((↑(List.length cs) : Int) > 1048576) || decide ((↑(List.length ms) : Int) > 1048576)) (T.leaf (some (AV.b true), [])) (T.leaf (none, c_laws_FnLikes_1 cs ms))))) :
    T.ok Q_ (evK VC ps_laws_FnLikes ks_laws_FnLikes_1 [.t 4] (.b true) ⟨oc_laws_FnLikes cs ms, fun id σ => match id with | 0 => some (lv_laws_FnLikes_L0, .leaf (.normal, h_laws_FnLikes_L0 cs ms ((lkS cs ms).length : Int))) | 2 => some (lv_laws_FnLikes_L2, .leaf (.normal, h_laws_FnLikes_L2 cs ms ((lkC cs ms).length : Int))) | 4 => some (lv_laws_FnLikes_L4, .leaf (.normal, h_laws_FnLikes_L4 cs ms (lkA cs ms) (lkB ms) (lkR ms) (lkF ms) (lkN ms))) | _ => none⟩ (front 2 (b_laws_FnLikes g_laws_b10Long g_laws_b10At g_spec_B10List g_spec_SelfLikes g_impl_SelfLikes g_spec_PartLikes g_impl_PartLikes g_spec_CrossLikes g_impl_CrossLikes g_impl_LikeSum g_laws_b10Gap g_impl_PairCount g_impl_RankLike g_spec_PairCount)) (startEnv 326 [PU [0] cs, PU [1] ms])) := evK_of (by kernel_rfl) ht

set_option maxHeartbeats 4000000 in
set_option maxRecDepth 100000 in
theorem q_laws_FnLikes_S1 {VC : FuncId → List AV → AV → Prop} {g_laws_b10Long g_laws_b10At g_spec_B10List g_spec_SelfLikes g_impl_SelfLikes g_spec_PartLikes g_impl_PartLikes g_spec_CrossLikes g_impl_CrossLikes g_impl_LikeSum g_laws_b10Gap g_impl_PairCount g_impl_RankLike g_spec_PairCount : FuncId} (cs : List Int) (ms : List Int) {Q_ : Option AV × Env → Prop} (ht : T.ok Q_ (
      T.ob (VC g_laws_b10At [AV.sl (Tag.par [0]) 0 (Cont.i IntKind.u8 ms), AV.i IntKind.i64 0, AV.i IntKind.i64 20] (AV.i IntKind.i64 (btM ms 0 20)))
        (T.ob (VC g_spec_B10List [AV.sl (Tag.par [0]) 0 (Cont.i IntKind.u8 cs), AV.i IntKind.i64 (IntKind.wrap IntKind.i64 (3 + btM ms 0 20))] (AV.sl (Tag.own 0) 0 (Cont.f FloatKind.f32 (lkA cs ms))))
          (T.ob (VC g_spec_B10List [AV.sl (Tag.par [0]) 0 (Cont.i IntKind.u8 ms), AV.i IntKind.i64 (IntKind.wrap IntKind.i64 (3 + btM ms 0 20))] (AV.sl (Tag.own 0) 0 (Cont.f FloatKind.f32 (lkB ms))))
            (T.ob (VC g_laws_b10At [AV.sl (Tag.par [0]) 0 (Cont.i IntKind.u8 ms), AV.i IntKind.i64 1, AV.i IntKind.i64 8] (AV.i IntKind.i64 (btM ms 1 8))) (T.leaf (none, c_laws_FnLikes_2 cs ms))))))) :
    T.ok Q_ (evK VC ps_laws_FnLikes ks_laws_FnLikes_2 [.t 4] (.b true) ⟨oc_laws_FnLikes cs ms, fun id σ => match id with | 0 => some (lv_laws_FnLikes_L0, .leaf (.normal, h_laws_FnLikes_L0 cs ms ((lkS cs ms).length : Int))) | 2 => some (lv_laws_FnLikes_L2, .leaf (.normal, h_laws_FnLikes_L2 cs ms ((lkC cs ms).length : Int))) | 4 => some (lv_laws_FnLikes_L4, .leaf (.normal, h_laws_FnLikes_L4 cs ms (lkA cs ms) (lkB ms) (lkR ms) (lkF ms) (lkN ms))) | _ => none⟩ (front 4 (rest 2 (b_laws_FnLikes g_laws_b10Long g_laws_b10At g_spec_B10List g_spec_SelfLikes g_impl_SelfLikes g_spec_PartLikes g_impl_PartLikes g_spec_CrossLikes g_impl_CrossLikes g_impl_LikeSum g_laws_b10Gap g_impl_PairCount g_impl_RankLike g_spec_PairCount))) (c_laws_FnLikes_1 cs ms)) := evK_of (by kernel_rfl) ht

set_option maxHeartbeats 4000000 in
set_option maxRecDepth 100000 in
theorem q_laws_FnLikes_S2 {VC : FuncId → List AV → AV → Prop} {g_laws_b10Long g_laws_b10At g_spec_B10List g_spec_SelfLikes g_impl_SelfLikes g_spec_PartLikes g_impl_PartLikes g_spec_CrossLikes g_impl_CrossLikes g_impl_LikeSum g_laws_b10Gap g_impl_PairCount g_impl_RankLike g_spec_PairCount : FuncId} (cs : List Int) (ms : List Int) {Q_ : Option AV × Env → Prop} (ht : T.ok Q_ (
      T.ob
        (VC g_spec_SelfLikes
          [AV.sl (Tag.par [0]) 0 (Cont.f FloatKind.f32 (lkA cs ms)),
            AV.i IntKind.i64 (bif decide (IntKind.wrap IntKind.i64 (IntKind.wrap IntKind.i64 (3 + btM ms 0 20) - 1) < btM ms 1 8) then IntKind.wrap IntKind.i64 (IntKind.wrap IntKind.i64 (3 + btM ms 0 20) - 1) else btM ms 1 8)]
          (AV.tup [AV.sl (Tag.own 0) 0 (Cont.f FloatKind.f32 (lkS cs ms)), AV.b (lkK cs ms)]))
        (T.ob
          (VC g_impl_SelfLikes
            [AV.sl (Tag.par [0]) 0 (Cont.f FloatKind.f32 (lkA cs ms)),
              AV.i IntKind.i64
                (bif decide (IntKind.wrap IntKind.i64 (IntKind.wrap IntKind.i64 (3 + btM ms 0 20) - 1) < btM ms 1 8) then IntKind.wrap IntKind.i64 (IntKind.wrap IntKind.i64 (3 + btM ms 0 20) - 1) else btM ms 1 8)]
            (AV.tup [AV.sl (Tag.own 0) 0 (Cont.f FloatKind.f32 (lkS cs ms)), AV.b (lkK cs ms)]))
          (T.ob
            (VC g_spec_PartLikes
              [AV.sl (Tag.par [0]) 0 (Cont.f FloatKind.f32 (lkA cs ms)),
                AV.i IntKind.i64
                  (bif decide (IntKind.wrap IntKind.i64 (IntKind.wrap IntKind.i64 (3 + btM ms 0 20) - 1) < btM ms 1 8) then IntKind.wrap IntKind.i64 (IntKind.wrap IntKind.i64 (3 + btM ms 0 20) - 1) else btM ms 1 8)]
              (AV.tup [AV.sl (Tag.own 0) 0 (Cont.f FloatKind.f32 (lkP cs ms)), AV.b (lkPk cs ms)]))
            (T.ob
              (VC g_impl_PartLikes
                [AV.sl (Tag.par [0]) 0 (Cont.f FloatKind.f32 (lkA cs ms)),
                  AV.i IntKind.i64
                    (bif decide (IntKind.wrap IntKind.i64 (IntKind.wrap IntKind.i64 (3 + btM ms 0 20) - 1) < btM ms 1 8) then IntKind.wrap IntKind.i64 (IntKind.wrap IntKind.i64 (3 + btM ms 0 20) - 1) else btM ms 1 8)]
                (AV.tup [AV.sl (Tag.own 0) 0 (Cont.f FloatKind.f32 (lkP cs ms)), AV.b (lkPk cs ms)]))
              (T.ob
                (VC g_spec_CrossLikes
                  [AV.sl (Tag.par [0]) 0 (Cont.f FloatKind.f32 (lkA cs ms)), AV.sl (Tag.par [1]) 0 (Cont.f FloatKind.f32 (lkB ms)),
                    AV.i IntKind.i64
                      (bif decide (IntKind.wrap IntKind.i64 (IntKind.wrap IntKind.i64 (3 + btM ms 0 20) - 1) < btM ms 1 8) then IntKind.wrap IntKind.i64 (IntKind.wrap IntKind.i64 (3 + btM ms 0 20) - 1) else btM ms 1 8)]
                  (AV.tup [AV.sl (Tag.own 0) 0 (Cont.f FloatKind.f32 (lkC cs ms)), AV.b (lkCk cs ms)]))
                (T.ob
                  (VC g_impl_CrossLikes
                    [AV.sl (Tag.par [0]) 0 (Cont.f FloatKind.f32 (lkA cs ms)), AV.sl (Tag.par [1]) 0 (Cont.f FloatKind.f32 (lkB ms)),
                      AV.i IntKind.i64
                        (bif decide (IntKind.wrap IntKind.i64 (IntKind.wrap IntKind.i64 (3 + btM ms 0 20) - 1) < btM ms 1 8) then IntKind.wrap IntKind.i64 (IntKind.wrap IntKind.i64 (3 + btM ms 0 20) - 1) else btM ms 1 8)]
                    (AV.tup [AV.sl (Tag.own 0) 0 (Cont.f FloatKind.f32 (lkC cs ms)), AV.b (lkCk cs ms)]))
                  (T.ob
                    (VC g_impl_CrossLikes
                      [AV.sl (Tag.par [0]) 0 (Cont.f FloatKind.f32 (lkB ms)), AV.sl (Tag.par [1]) 0 (Cont.f FloatKind.f32 (lkA cs ms)),
                        AV.i IntKind.i64
                          (bif decide (IntKind.wrap IntKind.i64 (IntKind.wrap IntKind.i64 (3 + btM ms 0 20) - 1) < btM ms 1 8) then IntKind.wrap IntKind.i64 (IntKind.wrap IntKind.i64 (3 + btM ms 0 20) - 1) else btM ms 1 8)]
                      (AV.tup [AV.sl (Tag.own 0) 0 (Cont.f FloatKind.f32 (lkD cs ms)), AV.b (lkDk cs ms)]))
                    (T.ob
                      (VC g_impl_LikeSum
                        [AV.sl (Tag.par [0]) 0 (Cont.f FloatKind.f32 (lkA cs ms)),
                          AV.i IntKind.i64
                            (bif decide (IntKind.wrap IntKind.i64 (IntKind.wrap IntKind.i64 (3 + btM ms 0 20) - 1) < btM ms 1 8) then IntKind.wrap IntKind.i64 (IntKind.wrap IntKind.i64 (3 + btM ms 0 20) - 1) else btM ms 1 8)]
                        (AV.tup [AV.f FloatKind.f32 (lkL cs ms), AV.b (lkLk cs ms)]))
                      (T.leaf (none, c_laws_FnLikes_3 cs ms))))))))))) :
    T.ok Q_ (evK VC ps_laws_FnLikes ks_laws_FnLikes_3 [.t 4] (.b true) ⟨oc_laws_FnLikes cs ms, fun id σ => match id with | 0 => some (lv_laws_FnLikes_L0, .leaf (.normal, h_laws_FnLikes_L0 cs ms ((lkS cs ms).length : Int))) | 2 => some (lv_laws_FnLikes_L2, .leaf (.normal, h_laws_FnLikes_L2 cs ms ((lkC cs ms).length : Int))) | 4 => some (lv_laws_FnLikes_L4, .leaf (.normal, h_laws_FnLikes_L4 cs ms (lkA cs ms) (lkB ms) (lkR ms) (lkF ms) (lkN ms))) | _ => none⟩ (front 8 (rest 4 (rest 2 (b_laws_FnLikes g_laws_b10Long g_laws_b10At g_spec_B10List g_spec_SelfLikes g_impl_SelfLikes g_spec_PartLikes g_impl_PartLikes g_spec_CrossLikes g_impl_CrossLikes g_impl_LikeSum g_laws_b10Gap g_impl_PairCount g_impl_RankLike g_spec_PairCount)))) (c_laws_FnLikes_2 cs ms)) := evK_of (by kernel_rfl) ht

set_option maxHeartbeats 4000000 in
set_option maxRecDepth 100000 in
theorem q_laws_FnLikes_S3 {VC : FuncId → List AV → AV → Prop} {g_laws_b10Long g_laws_b10At g_spec_B10List g_spec_SelfLikes g_impl_SelfLikes g_spec_PartLikes g_impl_PartLikes g_spec_CrossLikes g_impl_CrossLikes g_impl_LikeSum g_laws_b10Gap g_impl_PairCount g_impl_RankLike g_spec_PairCount : FuncId} (cs : List Int) (ms : List Int) {Q_ : Option AV × Env → Prop} (ht : T.ok Q_ (
      T.ite (!lkK cs ms == lkK cs ms) (T.leaf (some (AV.b false), []))
        (T.ite (!lkPk cs ms == lkPk cs ms) (T.leaf (some (AV.b false), []))
          (T.ite (!lkCk cs ms == lkCk cs ms) (T.leaf (some (AV.b false), []))
            (T.ite (!lkDk cs ms == lkCk cs ms) (T.leaf (some (AV.b false), [])) (T.ite (!lkLk cs ms == lkK cs ms) (T.leaf (some (AV.b false), [])) (T.leaf (none, c_laws_FnLikes_3 cs ms)))))))) :
    T.ok Q_ (evK VC ps_laws_FnLikes ks_laws_FnLikes_4 [.t 4] (.b true) ⟨oc_laws_FnLikes cs ms, fun id σ => match id with | 0 => some (lv_laws_FnLikes_L0, .leaf (.normal, h_laws_FnLikes_L0 cs ms ((lkS cs ms).length : Int))) | 2 => some (lv_laws_FnLikes_L2, .leaf (.normal, h_laws_FnLikes_L2 cs ms ((lkC cs ms).length : Int))) | 4 => some (lv_laws_FnLikes_L4, .leaf (.normal, h_laws_FnLikes_L4 cs ms (lkA cs ms) (lkB ms) (lkR ms) (lkF ms) (lkN ms))) | _ => none⟩ (front 1 (rest 8 (rest 4 (rest 2 (b_laws_FnLikes g_laws_b10Long g_laws_b10At g_spec_B10List g_spec_SelfLikes g_impl_SelfLikes g_spec_PartLikes g_impl_PartLikes g_spec_CrossLikes g_impl_CrossLikes g_impl_LikeSum g_laws_b10Gap g_impl_PairCount g_impl_RankLike g_spec_PairCount))))) (c_laws_FnLikes_3 cs ms)) := evK_of (by kernel_rfl) ht

set_option maxHeartbeats 4000000 in
set_option maxRecDepth 100000 in
theorem q_laws_FnLikes_S4 {VC : FuncId → List AV → AV → Prop} {g_laws_b10Long g_laws_b10At g_spec_B10List g_spec_SelfLikes g_impl_SelfLikes g_spec_PartLikes g_impl_PartLikes g_spec_CrossLikes g_impl_CrossLikes g_impl_LikeSum g_laws_b10Gap g_impl_PairCount g_impl_RankLike g_spec_PairCount : FuncId} (cs : List Int) (ms : List Int) {Q_ : Option AV × Env → Prop} (ht : T.ok Q_ (
      T.ite (lkK cs ms)
        (T.ite
          ((↑(List.length (lkS cs ms)) : Int) !=
            IntKind.wrap IntKind.i64
              ((bif decide (IntKind.wrap IntKind.i64 (IntKind.wrap IntKind.i64 (3 + btM ms 0 20) - 1) < btM ms 1 8) then IntKind.wrap IntKind.i64 (IntKind.wrap IntKind.i64 (3 + btM ms 0 20) - 1) else btM ms 1 8) + 1))
          (T.leaf (some (AV.b false), []))
          (T.ob ((0 : Int) ≤ 0 ∧ 0 < (↑(List.length (lkS cs ms)) : Int))
            (T.ob (fconvOk FloatKind.f32 FloatKind.f64 (List.getD (lkS cs ms) 0 0) = true)
              (T.ob
                (VC g_laws_b10Gap [AV.f FloatKind.f64 (fconv FloatKind.f32 FloatKind.f64 (List.getD (lkS cs ms) 0 0)), AV.f FloatKind.f64 4607182418800017408]
                  (AV.f FloatKind.f64 (gapD (fconv FloatKind.f32 FloatKind.f64 (List.getD (lkS cs ms) 0 0)) 4607182418800017408)))
                (T.ite (fgt FloatKind.f64 (gapD (fconv FloatKind.f32 FloatKind.f64 (List.getD (lkS cs ms) 0 0)) 4607182418800017408) 4562254508917369340) (T.leaf (some (AV.b false), []))
                  (T.ite (flt FloatKind.f32 (lkL cs ms) 0) (T.leaf (some (AV.b false), []))
                    (T.ob
                      (Exec VC ps_laws_FnLikes
                        (VCode.block 0
                          (VCode.loop
                            (b_laws_FnLikes_L0 g_laws_b10Long g_laws_b10At g_spec_B10List g_spec_SelfLikes g_impl_SelfLikes g_spec_PartLikes g_impl_PartLikes g_spec_CrossLikes g_impl_CrossLikes g_impl_LikeSum g_laws_b10Gap
                              g_impl_PairCount g_impl_RankLike g_spec_PairCount)))
                        (h_laws_FnLikes_L0 cs ms 0) Ex.normal (h_laws_FnLikes_L0 cs ms (↑(List.length (lkS cs ms)) : Int)))
                      (T.leaf (none, c_laws_FnLikes_5 cs ms)))))))))
        (T.leaf (none, c_laws_FnLikes_5 cs ms)))) :
    T.ok Q_ (evK VC ps_laws_FnLikes ks_laws_FnLikes_5 [.t 4] (.b true) ⟨oc_laws_FnLikes cs ms, fun id σ => match id with | 0 => some (lv_laws_FnLikes_L0, .leaf (.normal, h_laws_FnLikes_L0 cs ms ((lkS cs ms).length : Int))) | 2 => some (lv_laws_FnLikes_L2, .leaf (.normal, h_laws_FnLikes_L2 cs ms ((lkC cs ms).length : Int))) | 4 => some (lv_laws_FnLikes_L4, .leaf (.normal, h_laws_FnLikes_L4 cs ms (lkA cs ms) (lkB ms) (lkR ms) (lkF ms) (lkN ms))) | _ => none⟩ (front 1 (rest 1 (rest 8 (rest 4 (rest 2 (b_laws_FnLikes g_laws_b10Long g_laws_b10At g_spec_B10List g_spec_SelfLikes g_impl_SelfLikes g_spec_PartLikes g_impl_PartLikes g_spec_CrossLikes g_impl_CrossLikes g_impl_LikeSum g_laws_b10Gap g_impl_PairCount g_impl_RankLike g_spec_PairCount)))))) (c_laws_FnLikes_4 cs ms)) := evK_of (by kernel_rfl) ht

set_option maxHeartbeats 4000000 in
set_option maxRecDepth 100000 in
theorem q_laws_FnLikes_S5 {VC : FuncId → List AV → AV → Prop} {g_laws_b10Long g_laws_b10At g_spec_B10List g_spec_SelfLikes g_impl_SelfLikes g_spec_PartLikes g_impl_PartLikes g_spec_CrossLikes g_impl_CrossLikes g_impl_LikeSum g_laws_b10Gap g_impl_PairCount g_impl_RankLike g_spec_PairCount : FuncId} (cs : List Int) (ms : List Int) {Q_ : Option AV × Env → Prop} (ht : T.ok Q_ (
      T.ite (lkPk cs ms)
        (T.ite (decide ((bif decide (IntKind.wrap IntKind.i64 (IntKind.wrap IntKind.i64 (3 + btM ms 0 20) - 1) < btM ms 1 8) then IntKind.wrap IntKind.i64 (IntKind.wrap IntKind.i64 (3 + btM ms 0 20) - 1) else btM ms 1 8) > 0))
          (T.ite
            ((↑(List.length (lkP cs ms)) : Int) !=
              bif decide (IntKind.wrap IntKind.i64 (IntKind.wrap IntKind.i64 (3 + btM ms 0 20) - 1) < btM ms 1 8) then IntKind.wrap IntKind.i64 (IntKind.wrap IntKind.i64 (3 + btM ms 0 20) - 1) else btM ms 1 8)
            (T.leaf (some (AV.b false), []))
            (T.ob ((0 : Int) ≤ 0 ∧ 0 < (↑(List.length (lkP cs ms)) : Int))
              (T.ob (fconvOk FloatKind.f32 FloatKind.f64 (List.getD (lkP cs ms) 0 0) = true)
                (T.ob ((0 : Int) ≤ 1 ∧ 1 < (↑(List.length (lkS cs ms)) : Int))
                  (T.ob (fconvOk FloatKind.f32 FloatKind.f64 (List.getD (lkS cs ms) 1 0) = true)
                    (T.ob
                      (VC g_laws_b10Gap [AV.f FloatKind.f64 (fconv FloatKind.f32 FloatKind.f64 (List.getD (lkP cs ms) 0 0)), AV.f FloatKind.f64 (fconv FloatKind.f32 FloatKind.f64 (List.getD (lkS cs ms) 1 0))]
                        (AV.f FloatKind.f64 (gapD (fconv FloatKind.f32 FloatKind.f64 (List.getD (lkP cs ms) 0 0)) (fconv FloatKind.f32 FloatKind.f64 (List.getD (lkS cs ms) 1 0)))))
                      (T.ite (fgt FloatKind.f64 (gapD (fconv FloatKind.f32 FloatKind.f64 (List.getD (lkP cs ms) 0 0)) (fconv FloatKind.f32 FloatKind.f64 (List.getD (lkS cs ms) 1 0))) 4562254508917369340)
                        (T.leaf (some (AV.b false), [])) (T.leaf (none, c_laws_FnLikes_5 cs ms)))))))))
          (T.leaf (none, c_laws_FnLikes_5 cs ms)))
        (T.leaf (none, c_laws_FnLikes_5 cs ms)))) :
    T.ok Q_ (evK VC ps_laws_FnLikes ks_laws_FnLikes_6 [.t 4] (.b true) ⟨oc_laws_FnLikes cs ms, fun id σ => match id with | 0 => some (lv_laws_FnLikes_L0, .leaf (.normal, h_laws_FnLikes_L0 cs ms ((lkS cs ms).length : Int))) | 2 => some (lv_laws_FnLikes_L2, .leaf (.normal, h_laws_FnLikes_L2 cs ms ((lkC cs ms).length : Int))) | 4 => some (lv_laws_FnLikes_L4, .leaf (.normal, h_laws_FnLikes_L4 cs ms (lkA cs ms) (lkB ms) (lkR ms) (lkF ms) (lkN ms))) | _ => none⟩ (front 1 (rest 1 (rest 1 (rest 8 (rest 4 (rest 2 (b_laws_FnLikes g_laws_b10Long g_laws_b10At g_spec_B10List g_spec_SelfLikes g_impl_SelfLikes g_spec_PartLikes g_impl_PartLikes g_spec_CrossLikes g_impl_CrossLikes g_impl_LikeSum g_laws_b10Gap g_impl_PairCount g_impl_RankLike g_spec_PairCount))))))) (c_laws_FnLikes_5 cs ms)) := evK_of (by kernel_rfl) ht

set_option maxHeartbeats 4000000 in
set_option maxRecDepth 100000 in
theorem q_laws_FnLikes_S6 {VC : FuncId → List AV → AV → Prop} {g_laws_b10Long g_laws_b10At g_spec_B10List g_spec_SelfLikes g_impl_SelfLikes g_spec_PartLikes g_impl_PartLikes g_spec_CrossLikes g_impl_CrossLikes g_impl_LikeSum g_laws_b10Gap g_impl_PairCount g_impl_RankLike g_spec_PairCount : FuncId} (cs : List Int) (ms : List Int) {Q_ : Option AV × Env → Prop} (ht : T.ok Q_ (
      T.ite (lkCk cs ms)
        (T.ite
          ((↑(List.length (lkC cs ms)) : Int) !=
            IntKind.wrap IntKind.i64
              (IntKind.wrap IntKind.i64
                  (2 * bif decide (IntKind.wrap IntKind.i64 (IntKind.wrap IntKind.i64 (3 + btM ms 0 20) - 1) < btM ms 1 8) then IntKind.wrap IntKind.i64 (IntKind.wrap IntKind.i64 (3 + btM ms 0 20) - 1) else btM ms 1 8) +
                1))
          (T.leaf (some (AV.b false), []))
          (T.ite ((↑(List.length (lkD cs ms)) : Int) != (↑(List.length (lkC cs ms)) : Int)) (T.leaf (some (AV.b false), []))
            (T.ob
              (Exec VC ps_laws_FnLikes
                (VCode.block 2
                  (VCode.loop
                    (b_laws_FnLikes_L2 g_laws_b10Long g_laws_b10At g_spec_B10List g_spec_SelfLikes g_impl_SelfLikes g_spec_PartLikes g_impl_PartLikes g_spec_CrossLikes g_impl_CrossLikes g_impl_LikeSum g_laws_b10Gap
                      g_impl_PairCount g_impl_RankLike g_spec_PairCount)))
                (h_laws_FnLikes_L2 cs ms 0) Ex.normal (h_laws_FnLikes_L2 cs ms (↑(List.length (lkC cs ms)) : Int)))
              (T.leaf (none, c_laws_FnLikes_7 cs ms)))))
        (T.leaf (none, c_laws_FnLikes_7 cs ms)))) :
    T.ok Q_ (evK VC ps_laws_FnLikes ks_laws_FnLikes_7 [.t 4] (.b true) ⟨oc_laws_FnLikes cs ms, fun id σ => match id with | 0 => some (lv_laws_FnLikes_L0, .leaf (.normal, h_laws_FnLikes_L0 cs ms ((lkS cs ms).length : Int))) | 2 => some (lv_laws_FnLikes_L2, .leaf (.normal, h_laws_FnLikes_L2 cs ms ((lkC cs ms).length : Int))) | 4 => some (lv_laws_FnLikes_L4, .leaf (.normal, h_laws_FnLikes_L4 cs ms (lkA cs ms) (lkB ms) (lkR ms) (lkF ms) (lkN ms))) | _ => none⟩ (front 1 (rest 1 (rest 1 (rest 1 (rest 8 (rest 4 (rest 2 (b_laws_FnLikes g_laws_b10Long g_laws_b10At g_spec_B10List g_spec_SelfLikes g_impl_SelfLikes g_spec_PartLikes g_impl_PartLikes g_spec_CrossLikes g_impl_CrossLikes g_impl_LikeSum g_laws_b10Gap g_impl_PairCount g_impl_RankLike g_spec_PairCount)))))))) (c_laws_FnLikes_6 cs ms)) := evK_of (by kernel_rfl) ht

set_option maxHeartbeats 4000000 in
set_option maxRecDepth 100000 in
theorem q_laws_FnLikes_S7 {VC : FuncId → List AV → AV → Prop} {g_laws_b10Long g_laws_b10At g_spec_B10List g_spec_SelfLikes g_impl_SelfLikes g_spec_PartLikes g_impl_PartLikes g_spec_CrossLikes g_impl_CrossLikes g_impl_LikeSum g_laws_b10Gap g_impl_PairCount g_impl_RankLike g_spec_PairCount : FuncId} (cs : List Int) (ms : List Int) {Q_ : Option AV × Env → Prop} (ht : T.ok Q_ (
      T.ob
        (Exec VC ps_laws_FnLikes
          (VCode.block 4
            (VCode.loop
              (b_laws_FnLikes_L4 g_laws_b10Long g_laws_b10At g_spec_B10List g_spec_SelfLikes g_impl_SelfLikes g_spec_PartLikes g_impl_PartLikes g_spec_CrossLikes g_impl_CrossLikes g_impl_LikeSum g_laws_b10Gap g_impl_PairCount
                g_impl_RankLike g_spec_PairCount)))
          (h_laws_FnLikes_L4 cs ms (lkA cs ms) (lkB ms) [] [] 0) Ex.normal (c_laws_FnLikes_8 cs ms))
        (T.leaf (none, c_laws_FnLikes_8 cs ms)))) :
    T.ok Q_ (evK VC ps_laws_FnLikes ks_laws_FnLikes_8 [.t 4] (.b true) ⟨oc_laws_FnLikes cs ms, fun id σ => match id with | 0 => some (lv_laws_FnLikes_L0, .leaf (.normal, h_laws_FnLikes_L0 cs ms ((lkS cs ms).length : Int))) | 2 => some (lv_laws_FnLikes_L2, .leaf (.normal, h_laws_FnLikes_L2 cs ms ((lkC cs ms).length : Int))) | 4 => some (lv_laws_FnLikes_L4, .leaf (.normal, h_laws_FnLikes_L4 cs ms (lkA cs ms) (lkB ms) (lkR ms) (lkF ms) (lkN ms))) | _ => none⟩ (front 3 (rest 1 (rest 1 (rest 1 (rest 1 (rest 8 (rest 4 (rest 2 (b_laws_FnLikes g_laws_b10Long g_laws_b10At g_spec_B10List g_spec_SelfLikes g_impl_SelfLikes g_spec_PartLikes g_impl_PartLikes g_spec_CrossLikes g_impl_CrossLikes g_impl_LikeSum g_laws_b10Gap g_impl_PairCount g_impl_RankLike g_spec_PairCount))))))))) (c_laws_FnLikes_7 cs ms)) := evK_of (by kernel_rfl) ht

set_option maxHeartbeats 4000000 in
set_option maxRecDepth 100000 in
theorem q_laws_FnLikes_S8 {VC : FuncId → List AV → AV → Prop} {g_laws_b10Long g_laws_b10At g_spec_B10List g_spec_SelfLikes g_impl_SelfLikes g_spec_PartLikes g_impl_PartLikes g_spec_CrossLikes g_impl_CrossLikes g_impl_LikeSum g_laws_b10Gap g_impl_PairCount g_impl_RankLike g_spec_PairCount : FuncId} (cs : List Int) (ms : List Int) {Q_ : Option AV × Env → Prop} (ht : T.ok Q_ (
      T.ob (VC g_impl_PairCount [AV.sl (Tag.par [0]) 0 (Cont.f FloatKind.f32 (lkR ms)), AV.sl (Tag.par [1]) 0 (Cont.f FloatKind.f32 (lkF ms))] (AV.tup [AV.i IntKind.i64 (lkU ms), AV.b true]))
        (T.ob (VC g_impl_PairCount [AV.sl (Tag.par [0]) 0 (Cont.f FloatKind.f32 (lkA cs ms)), AV.sl (Tag.par [1]) 0 (Cont.f FloatKind.f32 (lkA cs ms))] (AV.tup [AV.i IntKind.i64 (pairsM (lkA cs ms) (lkA cs ms)), AV.b true]))
          (T.ob (VC g_impl_PairCount [AV.sl (Tag.par [0]) 0 (Cont.f FloatKind.f32 (lkA cs ms)), AV.sl (Tag.par [1]) 0 (Cont.f FloatKind.f32 (lkB ms))] (AV.tup [AV.i IntKind.i64 (pairsM (lkA cs ms) (lkB ms)), AV.b true]))
            (T.ob (VC g_impl_PairCount [AV.sl (Tag.par [0]) 0 (Cont.f FloatKind.f32 (lkB ms)), AV.sl (Tag.par [1]) 0 (Cont.f FloatKind.f32 (lkA cs ms))] (AV.tup [AV.i IntKind.i64 (pairsM (lkB ms) (lkA cs ms)), AV.b true]))
              (T.ob (VC g_impl_RankLike [AV.sl (Tag.par [0]) 0 (Cont.f FloatKind.f32 (lkR ms)), AV.sl (Tag.par [1]) 0 (Cont.f FloatKind.f32 (lkF ms))] (AV.tup [AV.f FloatKind.f32 (lkZ ms), AV.b true]))
                (T.ob
                  (VC g_spec_PairCount [AV.sl (Tag.par [0]) 0 (Cont.f FloatKind.f32 (lkA cs ms)), AV.sl (Tag.par [1]) 0 (Cont.f FloatKind.f32 (lkA cs ms))]
                    (AV.tup [AV.i IntKind.i64 (pairsM (lkA cs ms) (lkA cs ms)), AV.b true]))
                  (T.leaf (none, c_laws_FnLikes_9 cs ms))))))))) :
    T.ok Q_ (evK VC ps_laws_FnLikes ks_laws_FnLikes_9 [.t 4] (.b true) ⟨oc_laws_FnLikes cs ms, fun id σ => match id with | 0 => some (lv_laws_FnLikes_L0, .leaf (.normal, h_laws_FnLikes_L0 cs ms ((lkS cs ms).length : Int))) | 2 => some (lv_laws_FnLikes_L2, .leaf (.normal, h_laws_FnLikes_L2 cs ms ((lkC cs ms).length : Int))) | 4 => some (lv_laws_FnLikes_L4, .leaf (.normal, h_laws_FnLikes_L4 cs ms (lkA cs ms) (lkB ms) (lkR ms) (lkF ms) (lkN ms))) | _ => none⟩ (front 6 (rest 3 (rest 1 (rest 1 (rest 1 (rest 1 (rest 8 (rest 4 (rest 2 (b_laws_FnLikes g_laws_b10Long g_laws_b10At g_spec_B10List g_spec_SelfLikes g_impl_SelfLikes g_spec_PartLikes g_impl_PartLikes g_spec_CrossLikes g_impl_CrossLikes g_impl_LikeSum g_laws_b10Gap g_impl_PairCount g_impl_RankLike g_spec_PairCount)))))))))) (c_laws_FnLikes_8 cs ms)) := evK_of (by kernel_rfl) ht

set_option maxHeartbeats 4000000 in
set_option maxRecDepth 100000 in
theorem q_laws_FnLikes_S9 {VC : FuncId → List AV → AV → Prop} {g_laws_b10Long g_laws_b10At g_spec_B10List g_spec_SelfLikes g_impl_SelfLikes g_spec_PartLikes g_impl_PartLikes g_spec_CrossLikes g_impl_CrossLikes g_impl_LikeSum g_laws_b10Gap g_impl_PairCount g_impl_RankLike g_spec_PairCount : FuncId} (cs : List Int) (ms : List Int) {Q_ : Option AV × Env → Prop} (ht : T.ok Q_ (
      T.ite true
        (T.ite true
          (T.ite true
            (T.ite true
              (T.ite true
                (T.ob ((2 : Int) ≠ 0)
                  (T.ite
                    (lkU ms ==
                      IntKind.wrap IntKind.i64
                        (Int.tdiv (IntKind.wrap IntKind.i64 (IntKind.wrap IntKind.i64 (0 - IntKind.wrap IntKind.i64 (3 + btM ms 0 20)) * IntKind.wrap IntKind.i64 (IntKind.wrap IntKind.i64 (3 + btM ms 0 20) - 1))) 2))
                    (T.ite (pairsM (lkA cs ms) (lkA cs ms) == pairsM (lkA cs ms) (lkA cs ms))
                      (T.ite (pairsM (lkA cs ms) (lkB ms) == pairsM (lkB ms) (lkA cs ms))
                        (T.ob (fconvOk FloatKind.f32 FloatKind.f64 (lkZ ms) = true)
                          (T.ob
                            (VC g_laws_b10Gap [AV.f FloatKind.f64 (fconv FloatKind.f32 FloatKind.f64 (lkZ ms)), AV.f FloatKind.f64 13830554455654793216]
                              (AV.f FloatKind.f64 (gapD (fconv FloatKind.f32 FloatKind.f64 (lkZ ms)) 13830554455654793216)))
                            (T.leaf (some (AV.b (flt FloatKind.f64 (gapD (fconv FloatKind.f32 FloatKind.f64 (lkZ ms)) 13830554455654793216) 4562254508917369340)), []))))
                        (T.leaf (some (AV.b false), [])))
                      (T.leaf (some (AV.b false), [])))
                    (T.leaf (some (AV.b false), []))))
                (T.leaf (some (AV.b false), [])))
              (T.leaf (some (AV.b false), [])))
            (T.leaf (some (AV.b false), [])))
          (T.leaf (some (AV.b false), [])))
        (T.leaf (some (AV.b false), [])))) :
    T.ok Q_ (evS VC ps_laws_FnLikes [.t 4] (.b true) ⟨oc_laws_FnLikes cs ms, fun id σ => match id with | 0 => some (lv_laws_FnLikes_L0, .leaf (.normal, h_laws_FnLikes_L0 cs ms ((lkS cs ms).length : Int))) | 2 => some (lv_laws_FnLikes_L2, .leaf (.normal, h_laws_FnLikes_L2 cs ms ((lkC cs ms).length : Int))) | 4 => some (lv_laws_FnLikes_L4, .leaf (.normal, h_laws_FnLikes_L4 cs ms (lkA cs ms) (lkB ms) (lkR ms) (lkF ms) (lkN ms))) | _ => none⟩ (rest 6 (rest 3 (rest 1 (rest 1 (rest 1 (rest 1 (rest 8 (rest 4 (rest 2 (b_laws_FnLikes g_laws_b10Long g_laws_b10At g_spec_B10List g_spec_SelfLikes g_impl_SelfLikes g_spec_PartLikes g_impl_PartLikes g_spec_CrossLikes g_impl_CrossLikes g_impl_LikeSum g_laws_b10Gap g_impl_PairCount g_impl_RankLike g_spec_PairCount)))))))))) (c_laws_FnLikes_9 cs ms)) := evS_of (by kernel_rfl) ht

-- END laws_FnLikes

/-! ### cross likenesses in one form -/
theorem accN_skip {α : Type} {f : Nat → α → α} {a : α} {k : Nat} : ∀ n, k ≤ n → (∀ i s, k ≤ i → i < n → f i s = s) → accN f n a = accN f k a
  | 0, h, _ => by have : k = 0 := by omega
                  subst this; rfl
  | n + 1, h, hf => by
    rcases Nat.lt_or_ge n k with h1 | h1
    · have : k = n + 1 := by omega
      subst this; rfl
    · show f n (accN f n a) = _
      rw [hf n _ h1 (by omega)]
      exact accN_skip n h1 (fun i s a b => hf i s a (by omega))
theorem accN_shift {α : Type} {f : Nat → α → α} {a : α} {l : Nat} : ∀ k, accN f (k + l) a = accN (fun j => f (j + l)) k (accN f l a)
  | 0 => by rw [Nat.zero_add]; rfl
  | k + 1 => by
    rw [show k + 1 + l = (k + l) + 1 from by omega]
    show f (k + l) (accN f (k + l) a) = f (k + l) (accN (fun j => f (j + l)) k (accN f l a))
    rw [accN_shift k]
theorem accN_same {α : Type} {f : Nat → α → α} {a : α} : ∀ l, (∀ i s, i < l → f i s = s) → accN f l a = a
  | 0, _ => rfl
  | l + 1, h => by
    show f l (accN f l a) = a
    rw [h l _ (by omega)]; exact accN_same l (fun i s hi => h i s (by omega))
theorem cdel_up {x y : List Nat} {n l : Nat} (hx : x.length = n) (hy : y.length = n) (h : l ≤ n) : cdelM x y (l : Int) = accN (fun j s => fadd .f32 s (fmul .f32 (x.getD j 0) (y.getD (j + l) 0))) (n - l) 0 := by
  unfold cdelM
  rw [hx, hy, accN_skip (k := n - l) n (by omega) (fun i s a b => by rw [if_neg (by omega)])]
  refine accN_congr (fun i s hi => ?_)
  show (if _ then _ else _) = _
  rw [if_pos (by omega), show ((i : Int) + l).toNat = i + l from by omega]
theorem cdel_down {x y : List Nat} {n l : Nat} (hx : x.length = n) (hy : y.length = n) (h : l ≤ n) : cdelM x y (-(l : Int)) = accN (fun j s => fadd .f32 s (fmul .f32 (x.getD (j + l) 0) (y.getD j 0))) (n - l) 0 := by
  unfold cdelM
  rw [hx, hy, show n = (n - l) + l from by omega, accN_shift, accN_same l (fun i s hi => by rw [if_neg (by omega)]), show n - l + l - l = n - l from by omega]
  refine accN_congr (fun i s hi => ?_)
  show (if _ then _ else _) = _
  rw [if_pos (by omega), show (((i + l : Nat) : Int) + -(l : Int)).toNat = i from by omega]
theorem cdel_flip {x y : List Nat} {n : Nat} (hx : x.length = n) (hy : y.length = n) (lag : Int) (h : -(n : Int) ≤ lag ∧ lag ≤ n) : cdelM y x (-lag) = cdelM x y lag := by
  rcases Int.le_total 0 lag with h0 | h0
  · obtain ⟨l, rfl⟩ : ∃ l : Nat, lag = l := ⟨lag.toNat, by omega⟩
    rw [cdel_down hy hx (by omega), cdel_up hx hy (by omega)]
    exact accN_congr (fun i s _ => by show fadd .f32 s _ = fadd .f32 s _; rw [fmul_comm])
  · obtain ⟨l, rfl⟩ : ∃ l : Nat, lag = -(l : Int) := ⟨(-lag).toNat, by omega⟩
    rw [Int.neg_neg, cdel_up hy hx (by omega), cdel_down hx hy (by omega)]
    exact accN_congr (fun i s _ => by show fadd .f32 s _ = fadd .f32 s _; rw [fmul_comm])

/-! ### the sum of squares of what is left -/
theorem sq_den {x : Nat → Nat} {n : Nat} (hn : n ≤ 22) (h : Of x n) (hc : (∀ i, i < n → sv (x i) = 0) ∨ 1 / 70 ≤ r2 x n) :
    sf (accN (fun j s => fadd .f32 s (fmul .f32 (x j) (x j))) n 0) ∧ ((sv (accN (fun j s => fadd .f32 s (fmul .f32 (x j) (x j))) n 0) = 0) ∨
      (1 / 70 ≤ r2 x n ∧ Nr (sv (accN (fun j s => fadd .f32 s (fmul .f32 (x j) (x j))) n 0)) (r2 x n) (r2 x n * (1 / 90000)))) := by
  obtain ⟨t1, t2⟩ := r2_le hn h
  have := like_core (lx := 0) (ly := 0) (m := n) hn h h (by omega) (by omega) t1 (by grind) (Rat.le_refl)
  obtain ⟨a, b, c, d⟩ := this
  change sf (accN (fun j s => fadd .f32 s (fmul .f32 (x j) (x j))) n 0) at a
  change Nr (sv (accN (fun j s => fadd .f32 s (fmul .f32 (x j) (x j))) n 0)) (r2 x n) _ at b
  refine ⟨a, ?_⟩
  rcases hc with hc | hc
  · left
    have hz : ∀ i, i < n → sf (fmul .f32 (x i) (x i)) ∧ Gr 0 0 (sv (fmul .f32 (x i) (x i))) ∧ sv (fmul .f32 (x i) (x i)) = 0 := fun i hi => by
      have g0 : Gr 0 0 (sv (x i)) := by rw [hc i hi]; exact Gr.zero _ _
      obtain ⟨p, q⟩ := mul_gr .f32 (i := 0) (j := 0) (a := 0) (b := 0) (h i hi).1 (h i hi).1 g0 g0 (by decide) (by decide) (by decide)
      have q : sv (fmul .f32 (x i) (x i)) = sv (x i) * sv (x i) := q
      have q0 : sv (fmul .f32 (x i) (x i)) = 0 := by rw [q, hc i hi]; grind
      exact ⟨p, by rw [q0]; exact Gr.zero _ _, q0⟩
    have := acc_gr (g := fun i => fmul .f32 (x i) (x i)) (j := 0) (b := 0) (by omega) (by omega) n (by omega) (fun i hi => ⟨(hz i hi).1, (hz i hi).2.1⟩)
    rw [this.2.2, sumQ_congr (g := fun _ => (0 : Rat)) n (fun i hi => (hz i hi).2.2), sumQ_const]; grind
  · right
    obtain ⟨u, v⟩ := b
    have k : (200 : Rat) * eta ≤ 1 / 70 * (1 / 1000000) := by decide +kernel
    exact ⟨hc, by grind, by grind⟩
theorem delM_len (xs : List Nat) (l : Nat) : (offM xs).length = xs.length := tab_len _ _
/-- SELF LIKENESS -/
theorem self_near {xs : List Nat} {n M : Nat} (hn : 3 ≤ n ∧ n ≤ 22) (hl : xs.length = n) (hq : ∀ i, i < n → Qx (xs.getD i 0)) (hM : M < n) (hp : fgt .f32 (delM (offM xs) 0) 0 = true) :
    (∀ k, k ≤ M → sf ((likesM xs M).getD k 0) ∧ -(10002 / 10000) ≤ sv ((likesM xs M).getD k 0) ∧ sv ((likesM xs M).getD k 0) ≤ 10002 / 10000) ∧ Nr (sv ((likesM xs M).getD 0 0)) 1 (1 / 1000000) := by
  obtain ⟨ho, hc⟩ := off_cases hn hl hq
  have ol : (offM xs).length = n := by rw [delM_len xs 0, hl]
  obtain ⟨d1, d2⟩ := sq_den hn.2 ho hc
  have eD : delM (offM xs) 0 = accN (fun j s => fadd .f32 s (fmul .f32 ((offM xs).getD j 0) ((offM xs).getD j 0))) n 0 := by unfold delM; rw [ol]; rfl
  rw [← eD] at d1 d2
  rw [fgt_rv (k := .f32) d1 zero_sf] at hp
  have hp : sv 0 < sv (delM (offM xs) 0) := of_decide_eq_true hp
  have z0 : sv 0 = 0 := zero_rv _
  rw [z0] at hp
  rcases d2 with d2 | ⟨d2, d3⟩
  · rw [d2] at hp; exact absurd hp (by decide)
  obtain ⟨t1, t2⟩ := r2_le hn.2 ho
  obtain ⟨d3, d4⟩ := d3
  refine ⟨fun k hk => ?_, ?_⟩
  · unfold likesM
    rw [tab_at _ _ (by omega)]
    obtain ⟨a, ⟨b1, b2⟩, c, d⟩ := like_core (lx := 0) (ly := k) (m := n - k) hn.2 ho ho (by omega) (by omega) t1 (by grind) (Rat.le_refl)
    have eN : delM (offM xs) k = accN (fun j s => fadd .f32 s (fmul .f32 ((offM xs).getD (j + 0) 0) ((offM xs).getD (j + k) 0))) (n - k) 0 := by unfold delM; rw [ol]; rfl
    rw [← eN] at a b1 b2
    have kk : (200 : Rat) * eta ≤ 1 / 70 * (1 / 1000000) := by decide +kernel
    exact like_div (T := r2 (fun i => (offM xs).getD i 0) n) (by grind) a d1 (by grind) (by grind) (by grind)
  · unfold likesM
    rw [tab_at _ _ (by omega)]
    obtain ⟨r1, r2, r3⟩ := s_div (B := 1) (q := 1) d1 d1 (by grind) (by grind) (by decide +kernel) (by decide) (by decide +kernel)
    have k : (1 : Rat) * e23 + eta ≤ 1 / 1000000 := by decide +kernel
    exact ⟨by grind, by grind⟩
/-- CROSS LIKENESS -/
theorem cross_near {xs ys : List Nat} {n M : Nat} (hn : 3 ≤ n ∧ n ≤ 22) (hl : xs.length = n) (hl' : ys.length = n) (hq : ∀ i, i < n → Qx (xs.getD i 0)) (hq' : ∀ i, i < n → Qx (ys.getD i 0)) (hM : M < n) (hp : fgt .f32 (bothM xs ys) 0 = true) :
    ∀ k, k < 2 * M + 1 → sf ((crossM xs ys M).getD k 0) ∧ -(10002 / 10000) ≤ sv ((crossM xs ys M).getD k 0) ∧ sv ((crossM xs ys M).getD k 0) ≤ 10002 / 10000 := by
  obtain ⟨ho, hc⟩ := off_cases hn hl hq
  obtain ⟨ho', hc'⟩ := off_cases hn hl' hq'
  have ol : (offM xs).length = n := by rw [delM_len xs 0, hl]
  have ol' : (offM ys).length = n := by rw [delM_len ys 0, hl']
  obtain ⟨d1, d2⟩ := sq_den hn.2 ho hc
  obtain ⟨e1, e2⟩ := sq_den hn.2 ho' hc'
  have eD : dotM (offM xs) (offM xs) = accN (fun j s => fadd .f32 s (fmul .f32 ((offM xs).getD j 0) ((offM xs).getD j 0))) n 0 := by unfold dotM; rw [ol]
  have eE : dotM (offM ys) (offM ys) = accN (fun j s => fadd .f32 s (fmul .f32 ((offM ys).getD j 0) ((offM ys).getD j 0))) n 0 := by unfold dotM; rw [ol']
  rw [← eD] at d1 d2
  rw [← eE] at e1 e2
  obtain ⟨t1, t2⟩ := r2_le hn.2 ho
  obtain ⟨t3, t4⟩ := r2_le hn.2 ho'
  have z0 : sv 0 = 0 := zero_rv _
  -- neither is nothing
  have hz : ∀ {a b : Nat}, sf a → sf b → (sv a = 0 ∨ sv b = 0) → sv (fmul .f32 a b) = 0 ∧ sf (fmul .f32 a b) := by
    intro a b ha hb hab
    have e0 : sv a * sv b = 0 := by rcases hab with h | h <;> rw [h] <;> grind
    have rd := fmul_rd .f32 ha hb (by show rabs (sv a * sv b) ≤ _; rw [e0]; exact Rat.le_trans (by decide) (topS (B := 0) (by decide)))
    have p := rd.pos (by show 0 ≤ sv a * sv b; rw [e0]; decide)
    have m := rd.neg (by show sv a * sv b ≤ 0; rw [e0]; decide)
    have p : 0 ≤ sv (fmul .f32 a b) := p
    have m : sv (fmul .f32 a b) ≤ 0 := m
    exact ⟨by grind, rd.fin⟩
  have hb : sf (bothM xs ys) → 0 < sv (bothM xs ys) := fun h => by
    rw [fgt_rv (k := .f32) h zero_sf] at hp
    have hp : sv 0 < sv (bothM xs ys) := of_decide_eq_true hp
    rw [z0] at hp; exact hp
  rcases d2 with d2 | ⟨d2, d3, d4⟩
  · have := hz d1 e1 (.inl d2)
    have p := hb this.2
    have e : sv (bothM xs ys) = 0 := this.1
    rw [e] at p; exact absurd p (by decide)
  rcases e2 with e2 | ⟨e2, e3, e4⟩
  · have := hz d1 e1 (.inr e2)
    have p := hb this.2
    have e : sv (bothM xs ys) = 0 := this.1
    rw [e] at p; exact absurd p (by decide)
  generalize hX : r2 (fun i => (offM xs).getD i 0) n = X at *
  generalize hY : r2 (fun i => (offM ys).getD i 0) n = Y at *
  -- the product
  have dlo : X * (1 - 1 / 90000) ≤ sv (dotM (offM xs) (offM xs)) ∧ sv (dotM (offM xs) (offM xs)) ≤ X * (1 + 1 / 90000) := ⟨by grind, by grind⟩
  have elo : Y * (1 - 1 / 90000) ≤ sv (dotM (offM ys) (offM ys)) ∧ sv (dotM (offM ys) (offM ys)) ≤ Y * (1 + 1 / 90000) := ⟨by grind, by grind⟩
  have XY := Rat.mul_nonneg t1 t3
  have p1 := mul_mono (show 0 ≤ X * (1 - 1 / 90000) by grind) (show 0 ≤ Y * (1 - 1 / 90000) by grind) dlo.1 elo.1
  have p2 := mul_mono (show 0 ≤ sv (dotM (offM xs) (offM xs)) by grind) (show 0 ≤ sv (dotM (offM ys) (offM ys)) by grind) dlo.2 elo.2
  have xylo : 1 / 4900 ≤ X * Y := by have := mul_mono (show (0 : Rat) ≤ 1 / 70 by decide +kernel) (show (0 : Rat) ≤ 1 / 70 by decide +kernel) d2 e2; grind
  have xyhi : X * Y ≤ 3175524 := by have := mul_mono t1 t3 t2 t4; grind
  obtain ⟨b1, b2, b3⟩ := s_mul (B := X * Y * (1 + 1 / 40000)) d1 e1 (by grind) (by grind) (by grind)
  change sf (bothM xs ys) at b1
  change sv (bothM xs ys) - _ ≤ _ at b2
  change _ - sv (bothM xs ys) ≤ _ at b3
  have k1 : (1 + 1 / 40000) * e24 ≤ 1 / 10000000 := by decide +kernel
  have k2 := Rat.mul_le_mul_of_nonneg_left k1 XY
  have k3 : (eta : Rat) ≤ 1 / 4900 * (1 / 1000000000) := by decide +kernel
  have b4 : X * Y * (1 - 1 / 40000) ≤ sv (bothM xs ys) ∧ sv (bothM xs ys) ≤ X * Y * (1 + 1 / 40000 + 1 / 5000000) := ⟨by grind, by grind⟩
  obtain ⟨r1, r2, r3, r4, r5⟩ := root_near b1 (by grind) (by grind)
  generalize hr : sv (rootM (bothM xs ys)) = r at *
  have T0 : 0 ≤ r * (1 + 1 / 60000) := by grind
  have TT : X * Y ≤ r * (1 + 1 / 60000) * (r * (1 + 1 / 60000)) := by grind
  intro k hk
  unfold crossM
  rw [tab_at _ _ hk]
  have kk : (200 : Rat) * eta ≤ 1 / 1000 * (1 / 1000000) := by decide +kernel
  have num : sf (cdelM (offM xs) (offM ys) ((k : Int) - M)) ∧ -(r * (1 + 1 / 60000) * (1 + 1 / 50000)) ≤ sv (cdelM (offM xs) (offM ys) ((k : Int) - M)) ∧ sv (cdelM (offM xs) (offM ys) ((k : Int) - M)) ≤ r * (1 + 1 / 60000) * (1 + 1 / 50000) := by
    rcases Nat.le_total M k with h | h
    · obtain ⟨a, ⟨c1, c2⟩, c, d⟩ := like_core (lx := 0) (ly := k - M) (m := n - (k - M)) hn.2 ho ho' (by omega) (by omega) T0 (by grind) (by rw [hX, hY]; exact TT)
      have eN : cdelM (offM xs) (offM ys) ((k : Int) - M) = accN (fun j s => fadd .f32 s (fmul .f32 ((offM xs).getD (j + 0) 0) ((offM ys).getD (j + (k - M)) 0))) (n - (k - M)) 0 := by
        rw [show (k : Int) - M = ((k - M : Nat) : Int) from by omega, cdel_up ol ol' (by omega)]; rfl
      rw [← eN] at a c1 c2
      exact ⟨a, by grind, by grind⟩
    · obtain ⟨a, ⟨c1, c2⟩, c, d⟩ := like_core (lx := M - k) (ly := 0) (m := n - (M - k)) hn.2 ho ho' (by omega) (by omega) T0 (by grind) (by rw [hX, hY]; exact TT)
      have eN : cdelM (offM xs) (offM ys) ((k : Int) - M) = accN (fun j s => fadd .f32 s (fmul .f32 ((offM xs).getD (j + (M - k)) 0) ((offM ys).getD (j + 0) 0))) (n - (M - k)) 0 := by
        rw [show (k : Int) - M = -((M - k : Nat) : Int) from by omega, cdel_down ol ol' (by omega)]; rfl
      rw [← eN] at a c1 c2
      exact ⟨a, by grind, by grind⟩
  exact like_div (T := r * (1 + 1 / 60000)) (by grind) num.1 r1 num.2.1 num.2.2 (by rw [hr]; grind)
theorem cross_flip {xs ys : List Nat} {n M : Nat} (hl : xs.length = n) (hl' : ys.length = n) (hM : M < n) (k : Nat) (hk : k < 2 * M + 1) : (crossM ys xs M).getD (2 * M - k) 0 = (crossM xs ys M).getD k 0 := by
  have ol : (offM xs).length = n := by rw [delM_len xs 0, hl]
  have ol' : (offM ys).length = n := by rw [delM_len ys 0, hl']
  have hb : bothM ys xs = bothM xs ys := fmul_comm _ _ _
  unfold crossM
  rw [tab_at _ _ hk, tab_at _ _ (by omega), hb, show ((2 * M - k : Nat) : Int) - M = -((k : Int) - M) from by omega, cdel_flip ol ol' _ (by omega)]
/-! ### the sum of likenesses -/
theorem like_sum {xs r : List Nat} {n M : Nat} (hn : 3 ≤ n ∧ n ≤ 22) (hl : xs.length = n) (hr : r.length = M + 1) (hM : M < n) (h : ∀ k, k ≤ M → sf (r.getD k 0) ∧ -(10002 / 10000) ≤ sv (r.getD k 0) ∧ sv (r.getD k 0) ≤ 10002 / 10000) :
    sf (lsM xs r) ∧ 0 ≤ sv (lsM xs r) := by
  have n22 : (n : Rat) ≤ 22 := nat_le_rat hn.2
  have n3 : (3 : Rat) ≤ n := nat_le_rat hn.1
  have term : ∀ j, j < M → sf (fdiv .f32 (fmul .f32 (r.getD (j + 1) 0) (r.getD (j + 1) 0)) (fofi .f32 (n - (j + 1) : Nat))) ∧ 0 ≤ sv (fdiv .f32 (fmul .f32 (r.getD (j + 1) 0) (r.getD (j + 1) 0)) (fofi .f32 (n - (j + 1) : Nat))) ∧
      sv (fdiv .f32 (fmul .f32 (r.getD (j + 1) 0) (r.getD (j + 1) 0)) (fofi .f32 (n - (j + 1) : Nat))) ≤ 6 := fun j hj => by
    obtain ⟨a, b, c⟩ := h (j + 1) (by omega)
    obtain ⟨p1, p2, p3⟩ := s_sq (B := 2) a (by grind) (by grind) (by decide) (by decide)
    obtain ⟨f1, f2⟩ := fofi_n (n := n - (j + 1)) (by omega)
    have d1 : (1 : Rat) ≤ ((n - (j + 1) : Nat) : Rat) := nat_le_rat (show 1 ≤ n - (j + 1) by omega)
    generalize ((n - (j + 1) : Nat) : Rat) = d at *
    generalize fmul .f32 (r.getD (j + 1) 0) (r.getD (j + 1) 0) = p at *
    have hq : sv p / d * d = sv p := by grind
    generalize sv p / d = q at *
    have q0 : 0 ≤ q := by
      refine Rat.le_of_mul_le_mul_right (c := d) ?_ (by grind)
      grind
    have q5 : q ≤ 5 := by
      refine Rat.le_of_mul_le_mul_right (c := d) ?_ (by grind)
      grind
    obtain ⟨r1, r2, r3⟩ := s_div (B := 5) (q := q) p1 f1 (by rw [f2]; grind) (by rw [f2]; exact hq) (by grind) q5 (by decide)
    have rd := fdiv_rd .f32 (q := q) p1 f1 (by show sv _ ≠ 0; rw [f2]; grind) (by show q * sv _ = sv _; rw [f2]; exact hq) (by
      have := rabs_le (q := q) (B := 5) (by grind) q5
      exact Rat.le_trans (by grind) (topS (B := 10) (by decide)))
    have k : (5 : Rat) * e23 + eta ≤ 1 := by decide +kernel
    exact ⟨r1, rd.pos q0, by grind⟩
  have hs := acc_pos (g := fun j => fdiv .f32 (fmul .f32 (r.getD (j + 1) 0) (r.getD (j + 1) 0)) (fofi .f32 (n - (j + 1) : Nat))) (C := 6) (by decide) M (by
    have : (M : Rat) ≤ 22 := nat_le_rat (show M ≤ 22 by omega)
    grind) term
  obtain ⟨s1, s2, s3⟩ := hs
  have eS : lsSum n r = accN (fun j s => fadd .f32 s (fdiv .f32 (fmul .f32 (r.getD (j + 1) 0) (r.getD (j + 1) 0)) (fofi .f32 (n - (j + 1) : Nat)))) M 0 := by
    unfold lsSum; rw [hr]; rfl
  rw [← eS] at s1 s2 s3
  have hM22 : (M : Rat) ≤ 22 := nat_le_rat (show M ≤ 22 by omega)
  obtain ⟨f1, f2⟩ := fofi_n (n := n) (by omega)
  have two : sf 1073741824 ∧ sv 1073741824 = 2 := by
    have h : sf 1073741824 := by unfold sf fnt; decide +kernel
    exact ⟨h, lit_neg h (m := 2 ^ 23) (n := 22) (by decide +kernel) (by decide +kernel)⟩
  obtain ⟨a1, a2, a3⟩ := s_add (B := 30) f1 two.1 (by rw [f2, two.2]; grind) (by rw [f2, two.2]; grind) (by decide)
  rw [f2, two.2] at a2 a3
  have k1 : (30 : Rat) * e24 + eta ≤ 1 / 1000 := by decide +kernel
  unfold lsM
  rw [hl]
  generalize fadd .f32 (fofi .f32 n) 1073741824 = u at *
  have u0 : 0 ≤ sv u ∧ sv u ≤ 30 := ⟨by grind, by grind⟩
  have nu := mul_mono (show (0 : Rat) ≤ n by grind) u0.1 n22 u0.2
  have nu0 := Rat.mul_nonneg (show (0 : Rat) ≤ n by grind) u0.1
  obtain ⟨b1, b2, b3⟩ := s_mul (B := 660) f1 a1 (by rw [f2]; grind) (by rw [f2]; grind) (by decide)
  have rd1 := fmul_rd .f32 f1 a1 (by show rabs (sv _ * sv _) ≤ _; rw [f2]; exact Rat.le_trans (rabs_le (B := 660) (by grind) (by grind)) (topS (by decide)))
  have v0 : 0 ≤ sv (fmul .f32 (fofi .f32 n) u) := rd1.pos (by show 0 ≤ sv _ * sv _; rw [f2]; exact nu0)
  rw [f2] at b2 b3
  have k2 : (660 : Rat) * e24 + eta ≤ 1 := by decide +kernel
  have v1 : sv (fmul .f32 (fofi .f32 n) u) ≤ 700 := by grind
  generalize fmul .f32 (fofi .f32 n) u = v at *
  generalize lsSum n r = S at *
  have S1 : sv S ≤ 154 := by grind
  have vs := mul_mono v0 s2 v1 S1
  have vs0 := Rat.mul_nonneg v0 s2
  have rd2 := fmul_rd .f32 b1 s1 (by show rabs (sv _ * sv _) ≤ _; exact Rat.le_trans (rabs_le (B := 107800) (by grind) (by grind)) (topS (by decide)))
  exact ⟨rd2.fin, rd2.pos vs0⟩
/-! ### the first of the parts -/
theorem one_is : sf 1065353216 ∧ sv 1065353216 = 1 := by
  have h : sf 1065353216 := by unfold sf fnt; decide +kernel
  exact ⟨h, lit_neg h (m := 2 ^ 23) (n := 23) (by decide +kernel) (by decide +kernel)⟩
theorem part_first {r : List Nat} {M : Nat} (hM : 0 < M) (h1 : sf (r.getD 1 0)) (h2 : -(10002 / 10000) ≤ sv (r.getD 1 0)) (h3 : sv (r.getD 1 0) ≤ 10002 / 10000) :
    sf ((plM r M).getD 0 0) ∧ Nr (sv ((plM r M).getD 0 0)) (sv (r.getD 1 0)) (1 / 100000) := by
  have e : (plM r M).getD 0 0 = fdiv .f32 (fsub .f32 (r.getD 1 0) 0) (fsub .f32 1065353216 0) := by
    unfold plM
    rw [tab_at _ _ hM]
    rfl
  rw [e]
  have z0 : sv 0 = 0 := zero_rv _
  obtain ⟨o1, o2⟩ := one_is
  have g1 : Gr 0 1 (sv 1065353216) := ⟨1, by rw [o2]; have : (2 : Rat) ^ (0 : Int) = 1 := rfl; rw [this]; decide +kernel, by decide⟩
  have g0 : Gr 0 0 (sv 0) := by rw [z0]; exact Gr.zero _ _
  obtain ⟨c, d⟩ := sub_gr .f32 o1 zero_sf g1 g0 (by decide) (by decide) (by decide)
  have d : sv (fsub .f32 1065353216 0) = sv 1065353216 - sv 0 := d
  rw [o2, z0] at d
  obtain ⟨s1, s2, s3⟩ := s_sub (B := 2) h1 zero_sf (by rw [z0]; grind) (by rw [z0]; grind) (by decide)
  rw [z0] at s2 s3
  have k1 : (2 : Rat) * e24 + eta ≤ 1 / 1000000 := by decide +kernel
  obtain ⟨r1, r2, r3⟩ := s_div (B := 2) (q := sv (fsub .f32 (r.getD 1 0) 0)) s1 c (by rw [d]; decide +kernel) (by rw [d]; grind) (by grind) (by grind) (by decide)
  have k2 : (2 : Rat) * e23 + eta ≤ 1 / 1000000 := by decide +kernel
  exact ⟨r1, by grind, by grind⟩
/-! ### the rising and the falling list -/
theorem neg_rv {x : Nat} (h : sf x) : sf (fneg .f32 x) ∧ sv (fneg .f32 x) = - sv x := by
  have h1 : (FloatKind.f32.format.read x).isNaN = false := fnt_nan (k := .f32) h
  have e : fneg .f32 x = x ^^^ 2 ^ 31 := by
    unfold fneg; rw [h1]; simp only [Bool.false_eq_true, if_false]
    unfold Op.negFloat
    rw [show FloatKind.f32.format.exponentBits + FloatKind.f32.format.fractionBits = 31 by decide]
  have hS : Ieee.single.signWeight = 2 ^ 31 := by decide
  have h2 : rung Ieee.single (fneg .f32 x) = rung Ieee.single x := by
    rw [e]; unfold rung; rw [hS, Nat.xor_mod_two_pow, Nat.mod_self, Nat.xor_zero]
  have h3 : sign Ieee.single (fneg .f32 x) = !(sign Ieee.single x) := by
    rw [e]; unfold sign; rw [hS, Nat.xor_div_two_pow, Nat.div_self (by decide)]
    generalize x / 2 ^ 31 = d
    have h4 : (d ^^^ 1) % 2 = d % 2 ^^^ 1 % 2 := Nat.xor_mod_two_pow (n := 1)
    rw [h4]
    rcases Nat.mod_two_eq_zero_or_one d with h5 | h5 <;> rw [h5] <;> rfl
  refine ⟨by unfold sf fnt at *; rw [h2]; exact h, ?_⟩
  unfold sv rv
  rw [h2, h3]
  cases sign Ieee.single x
  · rfl
  · show _ = - - _; rw [Rat.neg_neg]; rfl
theorem two_is : sf 1073741824 ∧ sv 1073741824 = 2 := by
  have h : sf 1073741824 := by unfold sf fnt; decide +kernel
  exact ⟨h, lit_neg h (m := 2 ^ 23) (n := 22) (by decide +kernel) (by decide +kernel)⟩
theorem fall_at {i : Nat} (hi : i < 22) : sf (fdiv .f32 (fneg .f32 (fofi .f32 i)) 1073741824) ∧ sv (fdiv .f32 (fneg .f32 (fofi .f32 i)) 1073741824) = -((i : Rat) / 2) := by
  obtain ⟨a, b⟩ := fofi_n (n := i) (by omega)
  obtain ⟨c, d⟩ := neg_rv a
  obtain ⟨t1, t2⟩ := two_is
  have hg : Gr (-1) 22 (-((i : Rat) / 2)) := by
    have := half_gr (c := -(i : Int)) (b := 22) (by omega)
    have e : ((-(i : Int) : Int) : Rat) / 2 = -((i : Rat) / 2) := by rw [Rat.intCast_neg]; show -(i : Rat) / 2 = _; grind
    rw [e] at this; exact this
  exact div_gr .f32 (q := -((i : Rat) / 2)) c t1 (by show sv _ ≠ 0; rw [t2]; decide) (by show _ * sv _ = sv _; rw [t2, d, b]; grind) hg (by decide) (by decide) (by decide)
/-- two lists: the one rises, the other falls -/
structure UpDown (R F : List Nat) (n : Nat) : Prop where
  lr : R.length = n
  lf : F.length = n
  r : ∀ i, i < n → sf (R.getD i 0) ∧ sv (R.getD i 0) = i
  f : ∀ i, i < n → sf (F.getD i 0) ∧ sv (F.getD i 0) = -((i : Rat) / 2)
theorem nat_lt_rat {a b : Nat} : (a : Rat) < b ↔ a < b := Rat.natCast_lt_natCast
theorem pairs_num : ∀ n : Nat, n < 23 → (sumN n fun k => sumN k fun _ => (-1 : Int)) = Int.tdiv ((0 - (n : Int)) * ((n : Int) - 1)) 2 := by decide +kernel
theorem sumN_congrI {f g : Nat → Int} : ∀ n, (∀ i, i < n → f i = g i) → sumN n f = sumN n g
  | 0, _ => rfl
  | n + 1, h => by
    show sumN n f + f n = sumN n g + g n
    rw [sumN_congrI n (fun i hi => h i (by omega)), h n (by omega)]
theorem pairs_ud {R F : List Nat} {n : Nat} (hn : n < 23) (h : UpDown R F n) : pairsM R F = Int.tdiv ((0 - (n : Int)) * ((n : Int) - 1)) 2 := by
  rw [← pairs_num n hn]
  unfold pairsM
  rw [h.lr]
  refine sumN_congrI n (fun k hk => sumN_congrI k (fun i hi => ?_))
  obtain ⟨a1, a2⟩ := h.r k hk
  obtain ⟨b1, b2⟩ := h.r i (by omega)
  obtain ⟨c1, c2⟩ := h.f k hk
  obtain ⟨d1, d2⟩ := h.f i (by omega)
  have hik := nat_lt_rat.2 hi
  unfold pairM signM
  rw [flt_rv (k := .f32) a1 b1, fgt_rv (k := .f32) a1 b1, flt_rv (k := .f32) c1 d1]
  have e1 : decide (rv FloatKind.f32.format (R.getD k 0) < rv FloatKind.f32.format (R.getD i 0)) = false := decide_eq_false (by show ¬ sv _ < sv _; rw [a2, b2]; grind)
  have e2 : decide (rv FloatKind.f32.format (R.getD i 0) < rv FloatKind.f32.format (R.getD k 0)) = true := decide_eq_true (by show sv _ < sv _; rw [a2, b2]; exact hik)
  have e3 : decide (rv FloatKind.f32.format (F.getD k 0) < rv FloatKind.f32.format (F.getD i 0)) = true := decide_eq_true (by show sv _ < sv _; rw [c2, d2]; grind)
  rw [e1, e2, e3]; rfl
/-! ### ranks -/
theorem one_sum {n : Nat} {p : Nat → Bool} : (sumN n fun k => if p k = true then (1 : Int) else 0) = ((List.range n).countP p : Nat) := by
  induction n with
  | zero => rfl
  | succ n ih =>
    show (sumN n fun k => if p k = true then (1 : Int) else 0) + _ = _
    rw [ih, List.range_succ, List.countP_append]
    cases h : p n <;> simp [h]
theorem count_below : ∀ n : Nat, n < 23 → ∀ i, i < n → (sumN n fun k => if decide (k < i) = true then (1 : Int) else 0) = i ∧ (sumN n fun k => if decide (i < k) = true then (1 : Int) else 0) = n - 1 - i ∧ (sumN n fun k => if decide (k = i) = true then (1 : Int) else 0) = 1 := by decide +kernel
theorem rank_is {xs : List Nat} {x : Nat} {b : Nat} (hb : b < 100) (h1 : belowM xs x = b) (h2 : equalM xs x = 1) : sf (rankM xs x) ∧ sv (rankM xs x) = b := by
  unfold rankM
  rw [h1, h2]
  obtain ⟨f1, f2⟩ := fofi_n (n := b) hb
  obtain ⟨g1, g2⟩ := fofi_n (n := 0) (by omega)
  obtain ⟨o1, o2⟩ := half_is
  have p0 : ((2 : Rat)) ^ (0 : Int) = 1 := rfl
  have g0 : Gr 0 0 (sv (fofi .f32 ((0 : Nat) : Int))) := by rw [g2]; exact Gr.zero _ _
  have gh : Gr (-1) 1 (sv 1056964608) := by rw [o2]; have := half_gr (c := 1) (b := 1) (by decide); exact this
  obtain ⟨c, d⟩ := mul_gr .f32 (i := -1) (j := 0) (a := 1) (b := 0) o1 g1 gh g0 (by decide) (by decide) (by decide)
  have d : sv (fmul .f32 1056964608 (fofi .f32 ((0 : Nat) : Int))) = sv 1056964608 * sv (fofi .f32 ((0 : Nat) : Int)) := d
  have d0 : sv (fmul .f32 1056964608 (fofi .f32 ((0 : Nat) : Int))) = 0 := by rw [d, g2]; have : ((0 : Nat) : Rat) = 0 := rfl; rw [this]; grind
  have gb : Gr 0 100 (sv (fofi .f32 (b : Nat))) := ⟨(b : Int), by rw [f2, p0, Rat.mul_one]; rfl, by omega⟩
  obtain ⟨e, f⟩ := add_gr .f32 (j := 0) (a := 100) (b := 0) f1 c gb (by show Gr _ _ (sv (fmul .f32 1056964608 (fofi .f32 ((0 : Nat) : Int)))); rw [d0]; exact Gr.zero _ _) (by decide) (by decide) (by decide)
  have f : sv (fadd .f32 (fofi .f32 (b : Nat)) (fmul .f32 1056964608 (fofi .f32 ((0 : Nat) : Int)))) = sv (fofi .f32 (b : Nat)) + sv (fmul .f32 1056964608 (fofi .f32 ((0 : Nat) : Int))) := f
  refine ⟨e, ?_⟩
  show sv (fadd .f32 (fofi .f32 (b : Nat)) (fmul .f32 1056964608 (fofi .f32 ((0 : Nat) : Int)))) = _
  rw [f, f2, d0]; grind
theorem ranks_ud {R F : List Nat} {n : Nat} (hn : n < 23) (h : UpDown R F n) :
    (∀ i, i < n → sf ((ranksM R).getD i 0) ∧ sv ((ranksM R).getD i 0) = i) ∧ (∀ i, i < n → sf ((ranksM F).getD i 0) ∧ sv ((ranksM F).getD i 0) = ((n - 1 - i : Nat) : Rat)) := by
  have dl : ∀ {x y : Nat}, sf x → sf y → flt .f32 x y = decide (sv x < sv y) := fun a b => flt_rv (k := .f32) a b
  have de : ∀ {x y : Nat}, sf x → sf y → feq .f32 x y = decide (sv x = sv y) := fun a b => feq_rv (k := .f32) a b
  constructor
  · intro i hi
    obtain ⟨c1, c2, c3⟩ := count_below n hn i hi
    obtain ⟨b1, b2⟩ := h.r i hi
    unfold ranksM
    rw [tab_at _ _ (by rw [h.lr]; exact hi)]
    refine rank_is (by omega) ?_ ?_
    · rw [← c1]; unfold belowM; rw [h.lr]
      refine sumN_congrI n (fun k hk => ?_)
      obtain ⟨a1, a2⟩ := h.r k hk
      rw [dl a1 b1, a2, b2]
      congr 1
      simp [nat_lt_rat]
    · rw [← c3]; unfold equalM; rw [h.lr]
      refine sumN_congrI n (fun k hk => ?_)
      obtain ⟨a1, a2⟩ := h.r k hk
      rw [de a1 b1, a2, b2]
      congr 1
      simp [Rat.natCast_inj]
  · intro i hi
    obtain ⟨c1, c2, c3⟩ := count_below n hn i hi
    obtain ⟨b1, b2⟩ := h.f i hi
    unfold ranksM
    rw [tab_at _ _ (by rw [h.lf]; exact hi)]
    refine rank_is (by omega) ?_ ?_
    · have e : ((n - 1 - i : Nat) : Int) = (n : Int) - 1 - i := by omega
      rw [e, ← c2]; unfold belowM; rw [h.lf]
      refine sumN_congrI n (fun k hk => ?_)
      obtain ⟨a1, a2⟩ := h.f k hk
      rw [dl a1 b1, a2, b2]
      have : (-((k : Rat) / 2) < -((i : Rat) / 2)) ↔ i < k := by
        rw [← nat_lt_rat]
        constructor
        · intro h; grind
        · intro h; grind
      simp [this]
    · rw [← c3]; unfold equalM; rw [h.lf]
      refine sumN_congrI n (fun k hk => ?_)
      obtain ⟨a1, a2⟩ := h.f k hk
      rw [de a1 b1, a2, b2]
      have : (-((k : Rat) / 2) = -((i : Rat) / 2)) ↔ k = i := by
        rw [← Rat.natCast_inj]
        constructor
        · intro h; grind
        · intro h; rw [h]
      simp [this]
/-- a list of the first places in any order: what is left of it -/
theorem off_perm {xs : List Nat} {n : Nat} {f : Nat → Nat} (hn : 3 ≤ n ∧ n ≤ 22) (hl : xs.length = n) (hf : ∀ i, i < n → f i < n) (h : ∀ i, i < n → sf (xs.getD i 0) ∧ sv (xs.getD i 0) = (f i : Nat)) (hs : (sumQ n fun i => ((f i : Nat) : Rat)) = (n : Rat) * ((n : Rat) - 1) / 2) :
    ∀ i, i < n → sf ((offM xs).getD i 0) ∧ sv ((offM xs).getD i 0) = uQ n (f i) := by
  have n3 : (3 : Rat) ≤ n := nat_le_rat hn.1
  have p0 : ((2 : Rat)) ^ (0 : Int) = 1 := rfl
  obtain ⟨a1, a2, a3⟩ := acc_gr (g := fun i => xs.getD i 0) (j := 0) (b := 22) (by omega) (by omega) n (by omega) (fun i hi => ⟨(h i hi).1, ⟨(f i : Int), by rw [(h i hi).2, p0, Rat.mul_one]; rfl, by have := hf i hi; omega⟩⟩)
  rw [sumQ_congr (g := fun i => ((f i : Nat) : Rat)) n (fun i hi => (h i hi).2), hs] at a3
  obtain ⟨f1, f2⟩ := fofi_n (n := n) (by omega)
  have hgr : Gr (-1) 22 (((n : Rat) - 1) / 2) := by
    have := half_gr (c := (n : Int) - 1) (b := 22) (by omega)
    have e : (((n : Int) - 1 : Int) : Rat) = (n : Rat) - 1 := by rw [Rat.intCast_sub]; rfl
    rw [e] at this; exact this
  have hm : sf (meanM xs) ∧ sv (meanM xs) = ((n : Rat) - 1) / 2 := by
    unfold meanM sumM
    rw [hl]
    exact div_gr .f32 (q := ((n : Rat) - 1) / 2) a1 f1 (by show sv _ ≠ 0; rw [f2]; grind) (by show _ * sv _ = sv _; rw [f2, a3]; grind) hgr (by decide) (by decide) (by decide)
  intro i hi
  unfold offM lessOneM
  rw [tab_at _ _ (by rw [hl]; exact hi)]
  exact u_is hn (hf i hi) (h i hi).1 (h i hi).2 hm.1 hm.2
theorem u_flip {n i : Nat} (hi : i < n) : uQ n (n - 1 - i) = - uQ n i := by
  have e : ((n - 1 - i : Nat) : Rat) = (n : Rat) - 1 - i := by
    have h : (n - 1 - i) + i + 1 = n := by omega
    have := congrArg (fun k : Nat => (k : Rat)) h
    simp only [Rat.natCast_add] at this
    have o : ((1 : Nat) : Rat) = 1 := rfl
    rw [o] at this
    grind
  unfold uQ; rw [e]; grind
/-- THE RANKS OF A RISING AND A FALLING LIST -/
theorem rank_like {R F : List Nat} {n : Nat} (hn : 3 ≤ n ∧ n ≤ 22) (h : UpDown R F n) : fgt .f32 (bothM (ranksM R) (ranksM F)) 0 = true ∧ sf (rlM R F) ∧ Nr (sv (rlM R F)) (-1) (1 / 10000) := by
  obtain ⟨d0, _⟩ := fit_num n (by omega) hn.1
  have n22 : (n : Rat) ≤ 22 := nat_le_rat hn.2
  have n3 : (3 : Rat) ≤ n := nat_le_rat hn.1
  obtain ⟨rr, rf⟩ := ranks_ud (by omega) h
  have lR : (ranksM R).length = n := by unfold ranksM; rw [tab_len, h.lr]
  have lF : (ranksM F).length = n := by unfold ranksM; rw [tab_len, h.lf]
  have sr : (sumQ n fun i => ((n - 1 - i : Nat) : Rat)) = (n : Rat) * ((n : Rat) - 1) / 2 := by
    rw [sumQ_congr (g := fun i => -(1 : Rat) * uQ n i + ((n : Rat) - 1) / 2) n (fun i hi => by
      have := u_flip hi
      unfold uQ at this ⊢
      grind), sumQ_add (fun i => -(1 : Rat) * uQ n i) (fun _ => ((n : Rat) - 1) / 2), sumQ_mul, u_sum, sumQ_const]
    grind
  have oR := off_perm (f := fun i => i) hn lR (fun i hi => hi) rr (sumQ_id n)
  have oF := off_perm (f := fun i => n - 1 - i) hn lF (fun i hi => by show n - 1 - i < n; omega) rf sr
  have oF : ∀ i, i < n → sf ((offM (ranksM F)).getD i 0) ∧ sv ((offM (ranksM F)).getD i 0) = - uQ n i := fun i hi => ⟨(oF i hi).1, by rw [(oF i hi).2]; exact u_flip hi⟩
  have ol : (offM (ranksM R)).length = n := by rw [delM_len _ 0, lR]
  have ol' : (offM (ranksM F)).length = n := by rw [delM_len _ 0, lF]
  -- sums of products of such numbers are exact
  have dots : ∀ {x y : List Nat} {a b : Rat}, (a = 1 ∨ a = -1) → (b = 1 ∨ b = -1) → x.length = n → (∀ i, i < n → sf (x.getD i 0) ∧ sv (x.getD i 0) = a * uQ n i) → (∀ i, i < n → sf (y.getD i 0) ∧ sv (y.getD i 0) = b * uQ n i) →
      sf (dotM x y) ∧ sv (dotM x y) = a * b * dQ n := by
    intro x y a b ha hb hx h1 h2
    have gg : ∀ {c : Rat}, (c = 1 ∨ c = -1) → ∀ i, i < n → Gr (-1) 22 (c * uQ n i) := by
      intro c hc i hi
      rcases hc with rfl | rfl
      · have := u_gr hn.2 hi; rw [Rat.one_mul]; exact this
      · have := u_gr hn.2 (i := n - 1 - i) (by omega)
        rw [u_flip hi] at this
        have e : (-1 : Rat) * uQ n i = - uQ n i := by grind
        rw [e]; exact this
    have pr : ∀ i, i < n → sf (fmul .f32 (x.getD i 0) (y.getD i 0)) ∧ Gr (-1 + -1) 484 (sv (fmul .f32 (x.getD i 0) (y.getD i 0))) ∧ sv (fmul .f32 (x.getD i 0) (y.getD i 0)) = a * b * (uQ n i * uQ n i) := fun i hi => by
      obtain ⟨x1, x2⟩ := h1 i hi
      obtain ⟨y1, y2⟩ := h2 i hi
      have gx : Gr (-1) 22 (sv (x.getD i 0)) := by rw [x2]; exact gg ha i hi
      have gy : Gr (-1) 22 (sv (y.getD i 0)) := by rw [y2]; exact gg hb i hi
      obtain ⟨c, d⟩ := mul_gr .f32 (i := -1) (j := -1) (a := 22) (b := 22) x1 y1 gx gy (by decide) (by decide) (by decide)
      have d : sv (fmul .f32 (x.getD i 0) (y.getD i 0)) = sv (x.getD i 0) * sv (y.getD i 0) := d
      refine ⟨c, ?_, by rw [d, x2, y2]; grind⟩
      rw [d]; exact (Gr.mul gx gy).mono (by decide)
    unfold dotM
    rw [hx]
    have := acc_gr (g := fun i => fmul .f32 (x.getD i 0) (y.getD i 0)) (j := -1 + -1) (b := 484) (by omega) (by omega) n (by omega) (fun i hi => ⟨(pr i hi).1, (pr i hi).2.1⟩)
    refine ⟨this.1, ?_⟩
    rw [this.2.2, sumQ_congr (g := fun i => a * b * (uQ n i * uQ n i)) n (fun i hi => (pr i hi).2.2), sumQ_mul, u_sq]
  have oR1 : ∀ i, i < n → sf ((offM (ranksM R)).getD i 0) ∧ sv ((offM (ranksM R)).getD i 0) = 1 * uQ n i := fun i hi => ⟨(oR i hi).1, by rw [(oR i hi).2]; grind⟩
  have oF1 : ∀ i, i < n → sf ((offM (ranksM F)).getD i 0) ∧ sv ((offM (ranksM F)).getD i 0) = -1 * uQ n i := fun i hi => ⟨(oF i hi).1, by rw [(oF i hi).2]; grind⟩
  obtain ⟨a1, a2⟩ := dots (.inl rfl) (.inl rfl) ol oR1 oR1
  obtain ⟨b1, b2⟩ := dots (.inr rfl) (.inr rfl) ol' oF1 oF1
  obtain ⟨c1, c2⟩ := dots (.inl rfl) (.inr rfl) ol oR1 oF1
  have dlo : 2 ≤ dQ n ∧ dQ n ≤ 900 := by
    have : ∀ n : Nat, n < 23 → 3 ≤ n → 2 ≤ dQ n ∧ dQ n ≤ 900 := by decide +kernel
    exact this n (by omega) hn.1
  have a2 : sv (dotM (offM (ranksM R)) (offM (ranksM R))) = dQ n := by rw [a2]; grind
  have b2 : sv (dotM (offM (ranksM F)) (offM (ranksM F))) = dQ n := by rw [b2]; grind
  have c2 : sv (dotM (offM (ranksM R)) (offM (ranksM F))) = - dQ n := by rw [c2]; grind
  generalize dQ n = D at *
  have DD := mul_mono (show (0 : Rat) ≤ 2 by decide) (show (0 : Rat) ≤ 2 by decide) dlo.1 dlo.1
  have DD2 := mul_mono (show 0 ≤ D by grind) (show 0 ≤ D by grind) dlo.2 dlo.2
  obtain ⟨p1, p2, p3⟩ := s_mul (B := D * D) a1 b1 (by rw [a2, b2]; grind) (by rw [a2, b2]; grind) (by grind)
  rw [a2, b2] at p2 p3
  change sf (bothM (ranksM R) (ranksM F)) at p1
  change sv (bothM (ranksM R) (ranksM F)) - _ ≤ _ at p2
  change _ - sv (bothM (ranksM R) (ranksM F)) ≤ _ at p3
  have k1 : (e24 : Rat) ≤ 1 / 10000000 := by decide +kernel
  have k2 := Rat.mul_le_mul_of_nonneg_left k1 (show 0 ≤ D * D by grind)
  have k3 : (eta : Rat) ≤ 1 / 1000000000 := by decide +kernel
  obtain ⟨r1, r2, r3, r4, r5⟩ := root_near p1 (by grind) (by grind)
  have z0 : sv 0 = 0 := zero_rv _
  refine ⟨?_, ?_⟩
  · rw [fgt_rv (k := .f32) p1 zero_sf]
    refine decide_eq_true ?_
    show sv 0 < sv _
    rw [z0]; grind
  unfold rlM
  generalize sv (bothM (ranksM R) (ranksM F)) = B at *
  generalize hr : sv (rootM (bothM (ranksM R) (ranksM F))) = r at *
  -- the root is near D
  have rlo : D * (1 - 1 / 100000) ≤ r := by
    refine sq_le (by grind) ?_
    grind
  have rhi : r ≤ D * (1 + 1 / 100000) := by
    refine sq_le (by grind) ?_
    grind
  have hq : -D / r * r = -D := by grind
  generalize -D / r = q at *
  have hq1 : -(3 / 100000) ≤ q + 1 ∧ q + 1 ≤ 3 / 100000 := div_bound (d := r) (e := D * (1 / 100000)) (by grind) (by grind) (by grind) (by grind)
  obtain ⟨s1, s2, s3⟩ := s_div (B := 2) (q := q) c1 r1 (by rw [hr]; grind) (by rw [hr, c2]; exact hq) (by grind) (by grind) (by decide)
  have k4 : (2 : Rat) * e23 + eta ≤ 1 / 1000000 := by decide +kernel
  exact ⟨s1, by grind, by grind⟩
/-! ### gaps -/
theorem c1001 : df 4607186922399644778 ∧ 10009 / 10000 ≤ dv 4607186922399644778 := by
  have h : df 4607186922399644778 := by unfold df fnt; decide +kernel
  refine ⟨h, ?_⟩
  have : dv 4607186922399644778 = 4508103226997866 / 4503599627370496 := lit_neg h (m := 4508103226997866) (n := 52) (by decide +kernel) (by decide +kernel)
  rw [this]; decide +kernel
theorem cOne : df 4607182418800017408 ∧ dv 4607182418800017408 = 1 := by
  have h : df 4607182418800017408 := by unfold df fnt; decide +kernel
  exact ⟨h, lit_neg h (m := 2 ^ 52) (n := 52) (by decide +kernel) (by decide +kernel)⟩
theorem cLess : df 13830554455654793216 ∧ dv 13830554455654793216 = -1 := by
  have h : df 13830554455654793216 := by unfold df fnt; decide +kernel
  refine ⟨h, ?_⟩
  have e : dv 13830554455654793216 = sgR true (((2 ^ 52 : Nat) : Rat) * 2 ^ (-52 : Int)) := rv_read h (by decide +kernel)
  rw [e]
  have : (2 : Rat) ^ (-52 : Int) = 1 / 4503599627370496 := zp_neg 52 _ (by decide +kernel)
  rw [this]
  decide +kernel
theorem gap_size {a : Nat} (ha : sf a) (h1 : -(10002 / 10000) ≤ sv a) (h2 : sv a ≤ 10002 / 10000) : fgt .f64 (gapD (fconv .f32 .f64 a) 0) 4607186922399644778 = false := by
  obtain ⟨a1, a2⟩ := conv_up ha
  have z0 : dv 0 = 0 := zero_rv _
  obtain ⟨g1, g2, g3⟩ := gap_le (G := 10002 / 10000) a1 zero_df (by rw [a2, z0]; exact ⟨by grind, by grind⟩) (by decide +kernel)
  obtain ⟨c1, c2⟩ := c1001
  rw [fgt_rv (k := .f64) g1 c1]
  have k : (10002 : Rat) / 10000 + 10002 / 10000 * e53 + eta ≤ 10009 / 10000 := by decide +kernel
  exact decide_eq_false (Rat.not_lt.2 (Rat.le_trans g3 (Rat.le_trans k c2)))
theorem gap_one {a : Nat} (ha : sf a) (h : Nr (sv a) 1 (1 / 1000000)) : fgt .f64 (gapD (fconv .f32 .f64 a) 4607182418800017408) 4562254508917369340 = false := by
  obtain ⟨a1, a2⟩ := conv_up ha
  obtain ⟨o1, o2⟩ := cOne
  obtain ⟨g1, g2, g3⟩ := gap_le (G := 1 / 1000000) a1 o1 (by rw [a2, o2]; exact h) (by decide +kernel)
  obtain ⟨c1, c2, c3⟩ := c001
  rw [fgt_rv (k := .f64) g1 c1]
  have k : (1 : Rat) / 1000000 + 1 / 1000000 * e53 + eta ≤ 9 / 10000 := by decide +kernel
  exact decide_eq_false (Rat.not_lt.2 (Rat.le_trans g3 (Rat.le_trans k c2)))
theorem gap_less {a : Nat} (ha : sf a) (h : Nr (sv a) (-1) (1 / 10000)) : flt .f64 (gapD (fconv .f32 .f64 a) 13830554455654793216) 4562254508917369340 = true := by
  obtain ⟨a1, a2⟩ := conv_up ha
  obtain ⟨o1, o2⟩ := cLess
  obtain ⟨g1, g2, g3⟩ := gap_le (G := 1 / 10000) a1 o1 (by rw [a2, o2]; exact h) (by decide +kernel)
  obtain ⟨c1, c2, c3⟩ := c001
  rw [flt_rv (k := .f64) g1 c1]
  refine decide_eq_true ?_
  have k : (1 : Rat) / 10000 + 1 / 10000 * e53 + eta < 9 / 10000 := by decide +kernel
  show dv _ < dv _
  grind
/-! ### the law's lists -/
structure LkOk (cs ms : List Int) (n M : Nat) : Prop where
  hn : 3 ≤ n ∧ n ≤ 22
  hM : M ≤ 7
  hMn : M < n
  eN : lkN ms = n
  eM : lkM ms = M
  la : (lkA cs ms).length = n
  lb : (lkB ms).length = n
  qa : ∀ i, i < n → Qx ((lkA cs ms).getD i 0)
  qb : ∀ i, i < n → Qx ((lkB ms).getD i 0)
  ud : UpDown (lkR ms) (lkF ms) n
theorem lk_ok {cs ms : List Int} (hc : Byt cs) (hm : Byt ms) : ∃ n M, LkOk cs ms n M := by
  have b0 := bt_le hm (i := 0) (n := 20) (by omega) (by omega)
  have b1 := bt_le hm (i := 1) (n := 8) (by omega) (by omega)
  refine ⟨(lkN ms).toNat, (lkM ms).toNat, ?_⟩
  have hN : 3 ≤ lkN ms ∧ lkN ms ≤ 22 := by unfold lkN; omega
  have hM : 0 ≤ lkM ms ∧ lkM ms ≤ 7 ∧ lkM ms < lkN ms := by unfold lkM; omega
  refine ⟨by omega, by omega, by omega, by omega, by omega, s3L_len _ _ _ _, s3L_len _ _ _ _, fun i hi => s3L_q hc 0 0 _ i (by omega), fun i hi => s3L_q hm 0 0 _ i (by omega), ?_⟩
  refine ⟨tab_len _ _, tab_len _ _, fun i hi => ?_, fun i hi => ?_⟩
  · unfold lkR; rw [tab_at _ _ hi]; exact fofi_n (by omega)
  · unfold lkF; rw [tab_at _ _ hi]; exact fall_at (by omega)
section
variable {cs ms : List Int} {n M : Nat}
theorem LkOk.series (h : LkOk cs ms n M) : seriesM (lkA cs ms) = true ∧ seriesM (lkB ms) = true := by
  have := h.hn
  exact ⟨series_of (by rw [h.la]; omega) (by rw [h.la]; omega) (by rw [h.la]; exact fun i hi => (h.qa i hi).1), series_of (by rw [h.lb]; omega) (by rw [h.lb]; omega) (by rw [h.lb]; exact fun i hi => (h.qb i hi).1)⟩
theorem LkOk.one (h : LkOk cs ms n M) (hk : lkK cs ms = true) : lkS cs ms = likesM (lkA cs ms) M ∧ (lkS cs ms).length = M + 1 ∧ fgt .f32 (delM (offM (lkA cs ms)) 0) 0 = true := by
  have e : lkS cs ms = likesM (lkA cs ms) M := by
    unfold lkS likesOut
    change (if lkK cs ms = true then _ else _) = _
    rw [if_pos hk, h.eM]; rfl
  refine ⟨e, by rw [e]; exact tab_len _ _, ?_⟩
  unfold lkK likesOk at hk
  simp only [Bool.and_eq_true] at hk
  exact hk.2.2.2.1
theorem LkOk.sum (h : LkOk cs ms n M) : lkLk cs ms = lkK cs ms ∧ (lkK cs ms = true → flt .f32 (lkL cs ms) 0 = false) := by
  cases hk : lkK cs ms with
  | false =>
    refine ⟨?_, fun h => by cases h⟩
    unfold lkLk lsOk
    change (lkK cs ms && _) = false
    rw [hk]; rfl
  | true =>
    obtain ⟨e, l, p⟩ := h.one hk
    obtain ⟨s1, _⟩ := self_near h.hn h.la h.qa h.hMn p
    obtain ⟨a, b⟩ := like_sum h.hn h.la (r := likesM (lkA cs ms) M) (tab_len _ _) h.hMn s1
    have e1 : lkLk cs ms = true := by
      unfold lkLk lsOk
      change (lkK cs ms && _) = true
      rw [hk, h.eM]
      exact (finM_sf _).2 a
    refine ⟨e1, fun _ => ?_⟩
    have e2 : lkL cs ms = lsM (lkA cs ms) (likesM (lkA cs ms) M) := by unfold lkL; rw [if_pos e1, h.eM]; rfl
    rw [e2, flt_rv (k := .f32) a zero_sf]
    refine decide_eq_false ?_
    show ¬ sv _ < sv 0
    rw [show sv 0 = 0 from zero_rv _]
    exact Rat.not_lt.2 b
theorem LkOk.cross (h : LkOk cs ms n M) : lkDk cs ms = lkCk cs ms ∧ (lkCk cs ms = true → (lkC cs ms).length = 2 * M + 1 ∧ (lkD cs ms).length = 2 * M + 1 ∧
    (∀ k, k < 2 * M + 1 → sf ((lkC cs ms).getD k 0) ∧ -(10002 / 10000) ≤ sv ((lkC cs ms).getD k 0) ∧ sv ((lkC cs ms).getD k 0) ≤ 10002 / 10000) ∧ ∀ k, k < 2 * M + 1 → (lkD cs ms).getD (2 * M - k) 0 = (lkC cs ms).getD k 0) := by
  have hb : bothM (lkB ms) (lkA cs ms) = bothM (lkA cs ms) (lkB ms) := fmul_comm _ _ _
  obtain ⟨sa, sb⟩ := h.series
  have eC : lkCk cs ms = (fgt .f32 (bothM (lkA cs ms) (lkB ms)) 0 && finAllM (crossM (lkA cs ms) (lkB ms) M)) := by
    unfold lkCk crossOk twoM
    rw [sa, sb, h.la, h.lb, h.eM]
    have h1 : inM (M : Int) 0 16 = true := by have := h.hM; simp [inM]; omega
    have h2 : decide ((M : Int) < (n : Int)) = true := decide_eq_true (by have := h.hMn; omega)
    rw [h1, h2]
    simp
  have eD : lkDk cs ms = (fgt .f32 (bothM (lkA cs ms) (lkB ms)) 0 && finAllM (crossM (lkB ms) (lkA cs ms) M)) := by
    unfold lkDk crossOk twoM
    rw [sa, sb, h.la, h.lb, h.eM, hb]
    have h1 : inM (M : Int) 0 16 = true := by have := h.hM; simp [inM]; omega
    have h2 : decide ((M : Int) < (n : Int)) = true := decide_eq_true (by have := h.hMn; omega)
    rw [h1, h2]
    simp
  cases hp : fgt .f32 (bothM (lkA cs ms) (lkB ms)) 0 with
  | false =>
    rw [hp, Bool.false_and] at eC eD
    refine ⟨by rw [eC, eD], fun hk => ?_⟩
    rw [eC] at hk; cases hk
  | true =>
    have c1 := cross_near h.hn h.la h.lb h.qa h.qb h.hMn hp
    have c2 := cross_near h.hn h.lb h.la h.qb h.qa h.hMn (by rw [hb]; exact hp)
    have lc : (crossM (lkA cs ms) (lkB ms) M).length = 2 * M + 1 := tab_len _ _
    have ld : (crossM (lkB ms) (lkA cs ms) M).length = 2 * M + 1 := tab_len _ _
    have f1 : finAllM (crossM (lkA cs ms) (lkB ms) M) = true := finAll_of (by rw [lc]; exact fun i hi => (c1 i hi).1)
    have f2 : finAllM (crossM (lkB ms) (lkA cs ms) M) = true := finAll_of (by rw [ld]; exact fun i hi => (c2 i hi).1)
    rw [hp, f1, Bool.true_and] at eC
    rw [hp, f2, Bool.true_and] at eD
    refine ⟨by rw [eC, eD], fun _ => ?_⟩
    have gC : lkC cs ms = crossM (lkA cs ms) (lkB ms) M := by unfold lkC; rw [if_pos eC, h.eM]; rfl
    have gD : lkD cs ms = crossM (lkB ms) (lkA cs ms) M := by unfold lkD; rw [if_pos eD, h.eM]; rfl
    rw [gC, gD]
    exact ⟨lc, ld, c1, fun k hk => cross_flip h.la h.lb h.hMn k hk⟩
theorem LkOk.parts (h : LkOk cs ms n M) (hp : lkPk cs ms = true) : lkK cs ms = true ∧ (lkP cs ms).length = M ∧ (0 < M → fgt .f64 (gapD (fconv .f32 .f64 ((lkP cs ms).getD 0 0)) (fconv .f32 .f64 ((lkS cs ms).getD 1 0))) 4562254508917369340 = false) := by
  have hk : lkK cs ms = true := by
    have h2 := hp
    unfold lkPk plOk at h2
    simp only [Bool.and_eq_true] at h2
    exact h2.1
  have e : lkP cs ms = plM (likesM (lkA cs ms) M) M := by unfold lkP; rw [if_pos hp, h.eM]; rfl
  obtain ⟨eS, l, p⟩ := h.one hk
  obtain ⟨s1, _⟩ := self_near h.hn h.la h.qa h.hMn p
  refine ⟨hk, by rw [e]; exact tab_len _ _, fun h0 => ?_⟩
  obtain ⟨a, b, c⟩ := s1 1 (by omega)
  obtain ⟨p1, p2, p3⟩ := part_first (r := likesM (lkA cs ms) M) h0 a b c
  rw [e, eS]
  exact gap_c001 p1 a ⟨by grind, by grind⟩
theorem pairs_comm (xs ys : List Nat) (h : xs.length = ys.length) : pairsM xs ys = pairsM ys xs := by
  unfold pairsM
  rw [h]
  exact sumN_congrI _ (fun k _ => sumN_congrI _ (fun i _ => by unfold pairM; rw [Int.mul_comm]))
end
/-! ### the loops -/
theorem lk_loop0 {P : Program} {g1 g2 g3 g4 g5 g6 g7 g8 g9 g10 g11 g12 g13 g14 : FuncId} (c11 : C_laws_b10Gap P g11) (cs ms : List Int) (hl : (lkS cs ms).length ≤ 30) (h : ∀ i, i < (lkS cs ms).length → fgt .f64 (gapD (fconv .f32 .f64 ((lkS cs ms).getD i 0)) 0) 4607186922399644778 = false) :
    Exec (VCall P) ps_laws_FnLikes (VCode.block 0 (VCode.loop (b_laws_FnLikes_L0 g1 g2 g3 g4 g5 g6 g7 g8 g9 g10 g11 g12 g13 g14))) (h_laws_FnLikes_L0 cs ms 0) Ex.normal (h_laws_FnLikes_L0 cs ms ((lkS cs ms).length : Int)) := by
  refine for_up (e := .exit 0) (lkS cs ms).length (fun i => h_laws_FnLikes_L0 cs ms (i : Nat)) (by first | rfl | simp) (fun i hi => ?_) ?_
  · refine q_laws_FnLikes_L0 _ _ _ ?_
    rw [Int.toNat_natCast, h i hi]
    refine T.ok_ite (fun _ => ?_) (fun hc => by simp at hc; omega)
    refine T.ok_ob ⟨by omega, by omega⟩ (fun _ => T.ok_ob (fconvOk_32_64 _) (fun _ => T.ok_ob (c11 _ _) (fun _ => T.ok_ifalse (T.ok_leaf ?_))))
    rw [wrap64_id (n := (i : Int) + 1) (by omega) (by omega)]; rfl
  · refine q_laws_FnLikes_L0 _ _ _ ?_
    refine T.ok_ite (fun hc => by simp at hc) (fun _ => T.ok_leaf rfl)
theorem lk_loop2 {P : Program} {g1 g2 g3 g4 g5 g6 g7 g8 g9 g10 g11 g12 g13 g14 : FuncId} (c11 : C_laws_b10Gap P g11) (cs ms : List Int) {M : Nat} (hM : M ≤ 7) (lc : (lkC cs ms).length = 2 * M + 1) (ld : (lkD cs ms).length = 2 * M + 1)
    (h : ∀ i, i < 2 * M + 1 → fgt .f64 (gapD (fconv .f32 .f64 ((lkC cs ms).getD i 0)) 0) 4607186922399644778 = false)
    (h2 : ∀ i, i < 2 * M + 1 → fgt .f64 (gapD (fconv .f32 .f64 ((lkC cs ms).getD i 0)) (fconv .f32 .f64 ((lkD cs ms).getD (2 * M - i) 0))) 4562254508917369340 = false) :
    Exec (VCall P) ps_laws_FnLikes (VCode.block 2 (VCode.loop (b_laws_FnLikes_L2 g1 g2 g3 g4 g5 g6 g7 g8 g9 g10 g11 g12 g13 g14))) (h_laws_FnLikes_L2 cs ms 0) Ex.normal (h_laws_FnLikes_L2 cs ms ((lkC cs ms).length : Int)) := by
  refine for_up (e := .exit 2) (lkC cs ms).length (fun i => h_laws_FnLikes_L2 cs ms (i : Nat)) (by first | rfl | simp) (fun i hi => ?_) ?_
  · refine q_laws_FnLikes_L2 _ _ _ ?_
    rw [lc] at hi
    have w : IntKind.wrap .i64 (IntKind.wrap .i64 (((lkD cs ms).length : Int) - 1) - (i : Int)) = ((2 * M - i : Nat) : Int) := by
      rw [ld, wrap64_id (n := ((2 * M + 1 : Nat) : Int) - 1) (by omega) (by omega), wrap64_id (by omega) (by omega)]; omega
    rw [w, Int.toNat_natCast, Int.toNat_natCast, h i hi, h2 i hi]
    refine T.ok_ite (fun _ => ?_) (fun hc => by simp at hc; omega)
    refine T.ok_ob ⟨by omega, by omega⟩ (fun _ => T.ok_ob (fconvOk_32_64 _) (fun _ => T.ok_ob ⟨by omega, by omega⟩ (fun _ => T.ok_ob (fconvOk_32_64 _) (fun _ => T.ok_ob (c11 _ _) (fun _ => T.ok_ifalse
      (T.ok_ob ⟨by omega, by omega⟩ (fun _ => T.ok_ob (fconvOk_32_64 _) (fun _ => T.ok_ob (c11 _ _) (fun _ => T.ok_ifalse (T.ok_leaf ?_))))))))))
    rw [wrap64_id (n := (i : Int) + 1) (by omega) (by omega)]; rfl
  · refine q_laws_FnLikes_L2 _ _ _ ?_
    refine T.ok_ite (fun hc => by simp at hc) (fun _ => T.ok_leaf rfl)
theorem lk_loop4 {VC : FuncId → List AV → AV → Prop} {g1 g2 g3 g4 g5 g6 g7 g8 g9 g10 g11 g12 g13 g14 : FuncId} (cs ms : List Int) {n : Nat} (wN : IntKind.wrap .i64 (3 + btM ms 0 20) = (n : Nat)) (hn : n ≤ 22) (eN : lkN ms = n) :
    Exec VC ps_laws_FnLikes (VCode.block 4 (VCode.loop (b_laws_FnLikes_L4 g1 g2 g3 g4 g5 g6 g7 g8 g9 g10 g11 g12 g13 g14))) (h_laws_FnLikes_L4 cs ms (lkA cs ms) (lkB ms) [] [] 0) Ex.normal (c_laws_FnLikes_8 cs ms) := by
  have e8 : c_laws_FnLikes_8 cs ms = h_laws_FnLikes_L4 cs ms (lkA cs ms) (lkB ms) (tab n fun i => fofi .f32 i) (tab n fun i => fdiv .f32 (fneg .f32 (fofi .f32 i)) 1073741824) (n : Nat) := by
    have : (lkN ms).toNat = n := by omega
    unfold c_laws_FnLikes_8 h_laws_FnLikes_L4 lkR lkF
    rw [this, eN]
  rw [e8]
  refine for_up (e := .exit 4) n (fun i => h_laws_FnLikes_L4 cs ms (lkA cs ms) (lkB ms) (tab i fun i => fofi .f32 i) (tab i fun i => fdiv .f32 (fneg .f32 (fofi .f32 i)) 1073741824) (i : Nat)) (by first | rfl | simp) (fun i hi => ?_) ?_
  · refine q_laws_FnLikes_L4 _ _ _ _ _ _ _ ?_
    rw [wN]
    refine T.ok_ite (fun _ => ?_) (fun hc => by simp at hc; omega)
    refine T.ok_ob trivial (fun _ => T.ok_ob (by simp only [tab_len, List.length_cons, List.length_nil]; omega) (fun _ => T.ok_ob trivial (fun _ => T.ok_ob trivial (fun _ => T.ok_ob (by simp only [tab_len, List.length_cons, List.length_nil]; omega) (fun _ => T.ok_leaf ?_)))))
    rw [wrap64_id (n := (i : Int) + 1) (by omega) (by omega), tab_succ, tab_succ]; rfl
  · refine q_laws_FnLikes_L4 _ _ _ _ _ _ _ ?_
    rw [wN]
    refine T.ok_ite (fun hc => by simp at hc) (fun _ => T.ok_leaf rfl)
set_option maxHeartbeats 4000000 in
set_option maxRecDepth 100000 in
theorem k_laws_FnLikes {P : Program} {f g1 g2 g3 g4 g5 g6 g7 g8 g9 g10 g11 g12 g13 g14 : FuncId} (h : Is_laws_FnLikes P f g1 g2 g3 g4 g5 g6 g7 g8 g9 g10 g11 g12 g13 g14) (c1 : C_laws_b10Long P g1) (c2 : C_laws_b10At P g2) (c3 : C_spec_B10List P g3) (c4 : C_spec_SelfLikes P g4) (c5 : C_impl_SelfLikes P g5) (c6 : C_spec_PartLikes P g6) (c7 : C_impl_PartLikes P g7)
    (c8 : C_spec_CrossLikes P g8) (c9 : C_impl_CrossLikes P g9) (c10 : C_impl_LikeSum P g10) (c11 : C_laws_b10Gap P g11) (c12 : C_impl_PairCount P g12) (c13 : C_impl_RankLike P g13) (c14 : C_spec_PairCount P g14) : C_laws_FnLikes P f := by
  intro cs ms
  refine VCall.rng (fun hr => ?_)
  obtain ⟨r1, r2, _⟩ := hr
  obtain ⟨hc, lc⟩ := byt_of (cs := cs) r1
  obtain ⟨hm, lm⟩ := byt_of (cs := ms) r2
  obtain ⟨n, M, ok⟩ := lk_ok hc hm
  have hn := ok.hn
  have hM := ok.hM
  have hMn := ok.hMn
  have eN := ok.eN
  have eM := ok.eM
  have la := ok.la
  have lb := ok.lb
  have mx : maxLen = 9223372036854775807 := rfl
  have wN : IntKind.wrap .i64 (3 + btM ms 0 20) = (n : Nat) := by rw [← eN]; unfold lkN; exact wrap64_id (by have := eN; unfold lkN at this; omega) (by have := eN; unfold lkN at this; omega)
  have w1 : IntKind.wrap .i64 ((n : Int) - 1) = (n : Int) - 1 := wrap64_id (by omega) (by omega)
  have wM : (bif decide ((n : Int) - 1 < btM ms 1 8) then (n : Int) - 1 else btM ms 1 8) = (M : Int) := by
    rw [← eM]; unfold lkM; rw [eN]
    by_cases hh : (n : Int) - 1 < btM ms 1 8
    · rw [decide_eq_true hh]; simp only [cond_true]; omega
    · rw [decide_eq_false hh]; simp only [cond_false]; omega
  have a4 := c4 (lkA cs ms) (lkM ms) (by omega)
  have a5 := c5 (lkA cs ms) (lkM ms) (by omega)
  have a6 := c6 (lkA cs ms) (lkM ms) (by omega)
  have a7 := c7 (lkA cs ms) (lkM ms) (by omega)
  have a8 := c8 (lkA cs ms) (lkB ms) (lkM ms) (by omega) (by omega)
  have a9 := c9 (lkA cs ms) (lkB ms) (lkM ms) (by omega) (by omega)
  have a9' := c9 (lkB ms) (lkA cs ms) (lkM ms) (by omega) (by omega)
  have a10 := c10 (lkA cs ms) (lkM ms) (by omega)
  rw [eM] at a4 a5 a6 a7 a8 a9 a9' a10
  obtain ⟨sa, sb⟩ := ok.series
  obtain ⟨kS, kL⟩ := ok.sum
  obtain ⟨kD, kC⟩ := ok.cross
  obtain ⟨z1, z2, z3⟩ := rank_like hn ok.ud
  have bb : ∀ b : Bool, (!(b == b)) = false := by decide
  refine h.call_cut (ps := ps_laws_FnLikes) ?_
  refine cut_stepK (H := True) (σ1 := c_laws_FnLikes_1 cs ms) (q_laws_FnLikes_S0 cs ms ?_) (fun _ => ?_)
  · repeat' (first | with_reducible refine T.ok_ob ?_ (fun _ => ?_) | with_reducible refine T.ok_itrue ?_ | with_reducible refine T.ok_ifalse ?_ | with_reducible refine T.ok_ite (fun _ => ?_) (fun _ => ?_) | with_reducible refine T.ok_go ?_ | with_reducible refine T.ok_end ?_ | with_reducible refine T.ok_endL ?_)
    all_goals first | exact c1 _ _ | rfl | exact True.intro
  refine cut_stepK (H := True) (σ1 := c_laws_FnLikes_2 cs ms) (q_laws_FnLikes_S1 cs ms ?_) (fun _ => ?_)
  · rw [wN]
    repeat' (first | with_reducible refine T.ok_ob ?_ (fun _ => ?_) | with_reducible refine T.ok_itrue ?_ | with_reducible refine T.ok_ifalse ?_ | with_reducible refine T.ok_ite (fun _ => ?_) (fun _ => ?_) | with_reducible refine T.ok_go ?_ | with_reducible refine T.ok_end ?_ | with_reducible refine T.ok_endL ?_)
    · exact c2 _ _ _ ⟨by omega, by omega⟩ hm
    · rw [← eN]; exact c3 cs (lkN ms) ⟨by omega, by omega⟩ hc lc
    · rw [← eN]; exact c3 ms (lkN ms) ⟨by omega, by omega⟩ hm lm
    · exact c2 _ _ _ ⟨by omega, by omega⟩ hm
    · exact True.intro
  refine cut_stepK (H := True) (σ1 := c_laws_FnLikes_3 cs ms) (q_laws_FnLikes_S2 cs ms ?_) (fun _ => ?_)
  · rw [wN, w1, wM]
    have u4 : likesOut (lkA cs ms) (M : Int) = lkS cs ms := by unfold lkS; rw [eM]
    have u5 : likesOk (lkA cs ms) (M : Int) = lkK cs ms := by unfold lkK; rw [eM]
    have u6 : plOk (lkA cs ms) (M : Int) = lkPk cs ms := by unfold lkPk; rw [eM]
    have u7 : (if lkPk cs ms = true then plM (likesM (lkA cs ms) ((M : Int)).toNat) ((M : Int)).toNat else []) = lkP cs ms := by unfold lkP; rw [eM]
    have u8 : crossOk (lkA cs ms) (lkB ms) (M : Int) = lkCk cs ms := by unfold lkCk; rw [eM]
    have u9 : (if lkCk cs ms = true then crossM (lkA cs ms) (lkB ms) ((M : Int)).toNat else []) = lkC cs ms := by unfold lkC; rw [eM]
    have u10 : crossOk (lkB ms) (lkA cs ms) (M : Int) = lkDk cs ms := by unfold lkDk; rw [eM]
    have u11 : (if lkDk cs ms = true then crossM (lkB ms) (lkA cs ms) ((M : Int)).toNat else []) = lkD cs ms := by unfold lkD; rw [eM]
    have u12 : lsOk (lkA cs ms) (M : Int) = lkLk cs ms := by unfold lkLk; rw [eM]
    have u13 : (if lkLk cs ms = true then lsM (lkA cs ms) (likesM (lkA cs ms) ((M : Int)).toNat) else 0) = lkL cs ms := by unfold lkL; rw [eM]
    rw [u4, u5] at a4 a5
    rw [u6, u7] at a6 a7
    rw [u8, u9] at a8 a9
    rw [u10, u11] at a9'
    rw [u12, u13] at a10
    refine T.ok_ob a4 (fun _ => T.ok_ob a5 (fun _ => T.ok_ob a6 (fun _ => T.ok_ob a7 (fun _ => T.ok_ob a8 (fun _ => T.ok_ob a9 (fun _ => T.ok_ob a9' (fun _ => T.ok_ob a10 (fun _ => T.ok_go True.intro))))))))
  refine cut_stepK (H := True) (σ1 := c_laws_FnLikes_4 cs ms) (q_laws_FnLikes_S3 cs ms ?_) (fun _ => ?_)
  · rw [kS, kD, bb, bb, bb]
    refine T.ok_ifalse (T.ok_ifalse (T.ok_ifalse (T.ok_ifalse (T.ok_ifalse (T.ok_go True.intro)))))
  refine cut_stepK (H := True) (σ1 := c_laws_FnLikes_5 cs ms) (q_laws_FnLikes_S4 cs ms ?_) (fun _ => ?_)
  · rw [wN, w1, wM]
    refine T.ok_ite (fun hk => ?_) (fun _ => T.ok_go True.intro)
    obtain ⟨eS, lS, p⟩ := ok.one hk
    obtain ⟨s1, s2⟩ := self_near hn la ok.qa hMn p
    have e1 : (((lkS cs ms).length : Int) != IntKind.wrap .i64 ((M : Int) + 1)) = false := by
      rw [lS, wrap64_id (by omega) (by omega), bne_eq_false_iff_eq]; omega
    have s0 := (s1 0 (by omega)).1
    rw [← eS] at s0 s2 s1
    rw [e1, gap_one s0 s2, kL hk]
    refine T.ok_ifalse (T.ok_ob ⟨by omega, by omega⟩ (fun _ => T.ok_ob (fconvOk_32_64 _) (fun _ => T.ok_ob (c11 _ _) (fun _ => T.ok_ifalse (T.ok_ifalse (T.ok_ob ?_ (fun _ => T.ok_go True.intro)))))))
    exact lk_loop0 c11 cs ms (by omega) (fun i hi => by
      obtain ⟨a, b, c⟩ := s1 i (by omega)
      exact gap_size a b c)
  refine cut_stepK (H := True) (σ1 := c_laws_FnLikes_6 cs ms) (q_laws_FnLikes_S5 cs ms ?_) (fun _ => ?_)
  · rw [wN, w1, wM]
    refine T.ok_ite (fun hk => ?_) (fun _ => T.ok_go True.intro)
    obtain ⟨k1, k2, k3⟩ := ok.parts hk
    obtain ⟨eS, lS, p⟩ := ok.one k1
    refine T.ok_ite (fun h0 => ?_) (fun _ => T.ok_go True.intro)
    have h0 : 0 < M := by have := of_decide_eq_true h0; omega
    have e1 : (((lkP cs ms).length : Int) != (M : Int)) = false := by rw [k2, bne_eq_false_iff_eq]
    rw [e1, k3 h0]
    refine T.ok_ifalse (T.ok_ob ⟨by omega, by omega⟩ (fun _ => T.ok_ob (fconvOk_32_64 _) (fun _ => T.ok_ob ⟨by omega, by omega⟩ (fun _ => T.ok_ob (fconvOk_32_64 _) (fun _ => T.ok_ob (c11 _ _) (fun _ => T.ok_ifalse (T.ok_go True.intro)))))))
  refine cut_stepK (H := True) (σ1 := c_laws_FnLikes_7 cs ms) (q_laws_FnLikes_S6 cs ms ?_) (fun _ => ?_)
  · rw [wN, w1, wM]
    refine T.ok_ite (fun hk => ?_) (fun _ => T.ok_go True.intro)
    obtain ⟨l1, l2, l3, l4⟩ := kC hk
    have e1 : (((lkC cs ms).length : Int) != IntKind.wrap .i64 (IntKind.wrap .i64 (2 * (M : Int)) + 1)) = false := by
      rw [l1, wrap64_id (n := 2 * (M : Int)) (by omega) (by omega), wrap64_id (by omega) (by omega), bne_eq_false_iff_eq]; omega
    have e2 : (((lkD cs ms).length : Int) != ((lkC cs ms).length : Int)) = false := by rw [l1, l2, bne_eq_false_iff_eq]
    rw [e1, e2]
    refine T.ok_ifalse (T.ok_ifalse (T.ok_ob ?_ (fun _ => T.ok_go True.intro)))
    refine lk_loop2 c11 cs ms hM l1 l2 (fun i hi => ?_) (fun i hi => ?_)
    · obtain ⟨a, b, c⟩ := l3 i hi
      exact gap_size a b c
    · obtain ⟨a, b, c⟩ := l3 i hi
      rw [l4 i hi]
      exact gap_c001 a a ⟨by grind, by grind⟩
  refine cut_stepK (H := True) (σ1 := c_laws_FnLikes_8 cs ms) (q_laws_FnLikes_S7 cs ms ?_) (fun _ => ?_)
  · exact T.ok_ob (lk_loop4 cs ms wN hn.2 eN) (fun _ => T.ok_go True.intro)
  have lR := ok.ud.lr
  have lF := ok.ud.lf
  have sR : seriesM (lkR ms) = true := series_of (by omega) (by omega) (by rw [lR]; exact fun i hi => (ok.ud.r i hi).1)
  have sF : seriesM (lkF ms) = true := series_of (by omega) (by omega) (by rw [lF]; exact fun i hi => (ok.ud.f i hi).1)
  have tw : ∀ {x y : List Nat}, seriesM x = true → seriesM y = true → x.length = n → y.length = n → twoM x y = true := by
    intro x y h1 h2 h3 h4
    unfold twoM
    rw [h1, h2, h3, h4]; simp
  have rl : rlOk (lkR ms) (lkF ms) = true := by
    unfold rlOk
    rw [tw sR sF lR lF, z1, (finM_sf _).2 z2]; rfl
  refine cut_stepK (H := True) (σ1 := c_laws_FnLikes_9 cs ms) (q_laws_FnLikes_S8 cs ms ?_) (fun _ => ?_)
  · have p1 := c12 (lkR ms) (lkF ms) (by omega) (by omega)
    rw [tw sR sF lR lF, if_pos rfl] at p1
    have p2 := c12 (lkA cs ms) (lkA cs ms) (by omega) (by omega)
    rw [tw sa sa la la, if_pos rfl] at p2
    have p3 := c12 (lkA cs ms) (lkB ms) (by omega) (by omega)
    rw [tw sa sb la lb, if_pos rfl] at p3
    have p4 := c12 (lkB ms) (lkA cs ms) (by omega) (by omega)
    rw [tw sb sa lb la, if_pos rfl] at p4
    have p5 := c13 (lkR ms) (lkF ms) (by omega) (by omega)
    rw [rl, if_pos rfl] at p5
    have p6 := c14 (lkA cs ms) (lkA cs ms) (by omega) (by omega)
    rw [tw sa sa la la, if_pos rfl] at p6
    refine T.ok_ob p1 (fun _ => T.ok_ob p2 (fun _ => T.ok_ob p3 (fun _ => T.ok_ob p4 (fun _ => T.ok_ob p5 (fun _ => T.ok_ob p6 (fun _ => T.ok_go True.intro))))))
  refine cut_last (q_laws_FnLikes_S9 cs ms ?_)
  have eU : (lkU ms == IntKind.wrap .i64 (Int.tdiv (IntKind.wrap .i64 (IntKind.wrap .i64 (0 - (n : Int)) * ((n : Int) - 1))) 2)) = true := by
    have hb : ∀ k : Nat, k < 23 → -1000 ≤ (0 - (k : Int)) * ((k : Int) - 1) ∧ (0 - (k : Int)) * ((k : Int) - 1) ≤ 1000 ∧ -1000 ≤ Int.tdiv ((0 - (k : Int)) * ((k : Int) - 1)) 2 ∧ Int.tdiv ((0 - (k : Int)) * ((k : Int) - 1)) 2 ≤ 1000 := by decide +kernel
    obtain ⟨b1, b2, b3, b4⟩ := hb n (by omega)
    rw [wrap64_id (n := 0 - (n : Int)) (by omega) (by omega), wrap64_id (n := (0 - (n : Int)) * ((n : Int) - 1)) (by omega) (by omega), wrap64_id (by omega) (by omega), beq_iff_eq]
    exact pairs_ud (by omega) ok.ud
  have eP : (pairsM (lkA cs ms) (lkB ms) == pairsM (lkB ms) (lkA cs ms)) = true := by rw [beq_iff_eq]; exact pairs_comm _ _ (by omega)
  have eA : (pairsM (lkA cs ms) (lkA cs ms) == pairsM (lkA cs ms) (lkA cs ms)) = true := beq_self_eq_true _
  have eZ : flt .f64 (gapD (fconv .f32 .f64 (lkZ ms)) 13830554455654793216) 4562254508917369340 = true := gap_less z2 z3
  rw [wN, w1, eU, eP, eA, eZ]
  refine T.ok_itrue (T.ok_itrue (T.ok_itrue (T.ok_itrue (T.ok_itrue (T.ok_ob (by decide) (fun _ => T.ok_itrue (T.ok_itrue (T.ok_itrue (T.ok_ob (fconvOk_32_64 _) (fun _ => T.ok_ob (c11 _ _) (fun _ => T.ok_endL rfl)))))))))))

end Go.Proofs.LV
