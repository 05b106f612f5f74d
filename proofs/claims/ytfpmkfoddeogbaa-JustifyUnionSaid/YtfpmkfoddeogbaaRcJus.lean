/-
  JUSTIFY: the small code of functions of the program, printed by wip/gen/rc.py, each checked against the program by the kernel. By an AI agent.
-/
import Derived.Test.YtfpmkfoddeogbaaProg
import Derived.Test.YtfpmkfoddeogbaaAmP
namespace Go.CK
open Go.AM Go.Proofs

def rc_slices_Grow_int_int : RC :=
  (.seq
   (.reg false [0, 1] [
     ⟨some 4, none, (.mov (.c (.sl .full [])))⟩])
   (.seq
    (.seq
     (.reg false [0, 1, 6] [
       ⟨some 5, none, (.mov (.t 1))⟩,
       ⟨some 6, none, (.bin .lss (.t 5) (.c (.int .i64 0)))⟩])
     (.cond (.t 6)
      (.cond (.c .top)
       .skip
       .skip)
      .skip))
    (.seq
     (.seq
      (.reg false [0, 1] [
        ⟨some 8, none, (.mov (.t 1))⟩,
        ⟨some 9, none, (.mov (.t 0))⟩,
        ⟨some 10, none, (.more .cap [(.t 9)])⟩,
        ⟨some 11, none, (.mov (.t 0))⟩,
        ⟨some 12, none, (.len false (.t 11))⟩,
        ⟨some 13, none, (.bin .sub (.t 10) (.t 12))⟩,
        ⟨some 14, none, (.bin .sub (.t 8) (.t 13))⟩,
        ⟨some 1, none, (.mov (.t 14))⟩])
      (.seq
       (.reg false [0, 1, 16] [
         ⟨some 15, none, (.mov (.t 1))⟩,
         ⟨some 16, none, (.bin .gtr (.t 15) (.c (.int .i64 0)))⟩])
       (.cond (.t 16)
        (.reg false [0] [
          ⟨some 17, none, (.mov (.t 0))⟩,
          ⟨some 18, none, (.mov (.t 0))⟩,
          ⟨some 19, none, (.more .cap [(.t 18)])⟩,
          ⟨some 20, none, (.eff .slN [(.t 17), (.t 19)])⟩,
          ⟨some 21, none, (.mov (.t 1))⟩,
          ⟨some 22, none, (.eff (.appZ 1) [(.t 20), (.t 21)])⟩,
          ⟨some 23, none, (.mov (.t 0))⟩,
          ⟨some 24, none, (.len false (.t 23))⟩,
          ⟨some 25, none, (.slc 1 (.t 22) none (some (.t 24)) none)⟩,
          ⟨some 0, none, (.mov (.t 25))⟩])
        .skip)))
     (.seq
      (.reg false [4] [
        ⟨some 26, none, (.mov (.t 0))⟩,
        ⟨some 4, none, (.mov (.t 26))⟩])
      .ret))))
theorem of_slices_Grow_int_int {vals : List AV} {bs : List Box} {Q : AV → List Box → Prop} (hn : vals.length ≤ 27) (h : (⟨params 0 vals, bs, bs.length⟩ : St).fo true fun s => rc_slices_Grow_int_int.go Try.prog true s (retN [.slot 4] Q)) : AM.Sem Try.prog 125 vals bs Q :=
  Sem.of (fn := Try.f125) (keeps := [(0, [0, 1]), (1, [0, 1, 6]), (2, [0, 1]), (3, [0, 1]), (4, [0, 1, 16]), (5, [0]), (6, [4]), (1000000, [20, 22]), (1000001, [2])]) (solo := []) Try.func125 rfl (by kernel_rfl) (by kernel_rfl) (by kernel_rfl) hn (run_of h)
theorem op_slices_Grow_int_int {vals : List AV} {bs : List Box} {Q : AV → List Box → Prop} (hn : vals.length ≤ 27) (h : (⟨params 0 vals, bs, bs.length⟩ : St).fo true fun s => rc_slices_Grow_int_int.gp Try.prog true s (retP [.slot 4] Q)) : AM.Sem Try.prog 125 vals bs Q :=
  Sem.nrm (Sem.of (fn := Try.f125) (keeps := [(0, [0, 1]), (1, [0, 1, 6]), (2, [0, 1]), (3, [0, 1]), (4, [0, 1, 16]), (5, [0]), (6, [4]), (1000000, [20, 22]), (1000001, [2])]) (solo := []) Try.func125 rfl (by kernel_rfl) (by kernel_rfl) (by kernel_rfl) hn (run_gp h))

def rc_slices_Concat_int_int : RC :=
  (.seq
   (.reg false [0] [
     ⟨some 2, none, (.mov (.c (.sl .full [])))⟩])
   (.seq
    (.reg false [0, 3] [
      ⟨some 3, none, (.mov (.c (.int .i64 0)))⟩])
    (.seq
     (.seq
      (.reg false [0, 3, 9, 10, 11] [
        ⟨some 9, none, (.mov (.t 0))⟩,
        ⟨some 10, none, (.len false (.t 9))⟩,
        ⟨some 11, none, (.mov (.c (.int .i64 0)))⟩])
      (.block 0
       (.loop
        (.seq
         (.reg false [0, 3, 9, 10, 11, 12] [
           ⟨some 12, none, (.bin .lss (.t 11) (.t 10))⟩])
         (.seq
          (.cond (.t 12)
           .skip
           (.exit 0))
          (.seq
           (.block 1
            (.seq
             (.reg false [0, 3, 5, 9, 10, 11] [
               ⟨some 13, none, (.idx 1 (.t 9) (.t 11))⟩,
               ⟨some 14, none, (.load false 1 (.t 13))⟩,
               ⟨some 5, none, (.mov (.t 14))⟩])
             (.seq
              (.reg false [0, 3, 9, 10, 11] [
                ⟨some 15, none, (.mov (.t 3))⟩,
                ⟨some 16, none, (.mov (.t 5))⟩,
                ⟨some 17, none, (.len false (.t 16))⟩,
                ⟨some 18, none, (.bin .add (.t 15) (.t 17))⟩,
                ⟨some 3, none, (.mov (.t 18))⟩])
              (.seq
               (.reg false [0, 3, 9, 10, 11, 20] [
                 ⟨some 19, none, (.mov (.t 3))⟩,
                 ⟨some 20, none, (.bin .lss (.t 19) (.c (.int .i64 0)))⟩])
               (.cond (.t 20)
                (.cond (.c .top)
                 .skip
                 .skip)
                .skip)))))
           (.reg false [0, 3, 9, 10, 11] [
             ⟨some 22, none, (.bin .add (.t 11) (.c (.int .i64 1)))⟩,
             ⟨some 11, none, (.mov (.t 22))⟩])))))))
     (.seq
      (.reg false [0, 6] [
        ⟨some 23, none, (.mov (.t 3))⟩,
        ⟨some 24, none, (.call (.c (.fn (.func 125) [] [])) [(.c (.sl .full [])), (.t 23)])⟩,
        ⟨some 6, none, (.mov (.t 24))⟩])
      (.seq
       (.seq
        (.reg false [6, 25, 26, 27] [
          ⟨some 25, none, (.mov (.t 0))⟩,
          ⟨some 26, none, (.len false (.t 25))⟩,
          ⟨some 27, none, (.mov (.c (.int .i64 0)))⟩])
        (.block 2
         (.loop
          (.seq
           (.reg false [6, 25, 26, 27, 28] [
             ⟨some 28, none, (.bin .lss (.t 27) (.t 26))⟩])
           (.seq
            (.cond (.t 28)
             .skip
             (.exit 2))
            (.seq
             (.block 3
              (.seq
               (.reg false [6, 8, 25, 26, 27] [
                 ⟨some 29, none, (.idx 1 (.t 25) (.t 27))⟩,
                 ⟨some 30, none, (.load false 1 (.t 29))⟩,
                 ⟨some 8, none, (.mov (.t 30))⟩])
               (.reg false [6, 25, 26, 27] [
                 ⟨some 31, none, (.mov (.t 6))⟩,
                 ⟨some 32, none, (.mov (.t 8))⟩,
                 ⟨some 33, none, (.eff (.appB 1) [(.t 31), (.t 32)])⟩,
                 ⟨some 6, none, (.mov (.t 33))⟩])))
             (.reg false [6, 25, 26, 27] [
               ⟨some 34, none, (.bin .add (.t 27) (.c (.int .i64 1)))⟩,
               ⟨some 27, none, (.mov (.t 34))⟩])))))))
       (.seq
        (.reg false [2] [
          ⟨some 35, none, (.mov (.t 6))⟩,
          ⟨some 2, none, (.mov (.t 35))⟩])
        .ret))))))
theorem of_slices_Concat_int_int {vals : List AV} {bs : List Box} {Q : AV → List Box → Prop} (hn : vals.length ≤ 36) (h : (⟨params 0 vals, bs, bs.length⟩ : St).fo true fun s => rc_slices_Concat_int_int.go Try.prog true s (retN [.slot 2] Q)) : AM.Sem Try.prog 102 vals bs Q :=
  Sem.of (fn := Try.f102) (keeps := [(0, [0]), (1, [0, 3]), (2, [0, 3, 9, 10, 11]), (3, [0, 3, 9, 10, 11, 12]), (4, [0, 3, 5, 9, 10, 11]), (5, [0, 3, 9, 10, 11]), (6, [0, 3, 9, 10, 11, 20]), (7, [0, 3, 9, 10, 11]), (8, [0, 3, 9, 10, 11]), (9, [0, 6]), (10, [6, 25, 26, 27]), (11, [6, 25, 26, 27, 28]), (12, [6, 8, 25, 26, 27]), (13, [6, 25, 26, 27]), (14, [6, 25, 26, 27]), (15, [2]), (1000000, [33]), (1000001, [7])]) (solo := []) Try.func102 rfl (by kernel_rfl) (by kernel_rfl) (by kernel_rfl) hn (run_of h)
theorem op_slices_Concat_int_int {vals : List AV} {bs : List Box} {Q : AV → List Box → Prop} (hn : vals.length ≤ 36) (h : (⟨params 0 vals, bs, bs.length⟩ : St).fo true fun s => rc_slices_Concat_int_int.gp Try.prog true s (retP [.slot 2] Q)) : AM.Sem Try.prog 102 vals bs Q :=
  Sem.nrm (Sem.of (fn := Try.f102) (keeps := [(0, [0]), (1, [0, 3]), (2, [0, 3, 9, 10, 11]), (3, [0, 3, 9, 10, 11, 12]), (4, [0, 3, 5, 9, 10, 11]), (5, [0, 3, 9, 10, 11]), (6, [0, 3, 9, 10, 11, 20]), (7, [0, 3, 9, 10, 11]), (8, [0, 3, 9, 10, 11]), (9, [0, 6]), (10, [6, 25, 26, 27]), (11, [6, 25, 26, 27, 28]), (12, [6, 8, 25, 26, 27]), (13, [6, 25, 26, 27]), (14, [6, 25, 26, 27]), (15, [2]), (1000000, [33]), (1000001, [7])]) (solo := []) Try.func102 rfl (by kernel_rfl) (by kernel_rfl) (by kernel_rfl) hn (run_gp h))

def rc_justify_union : RC :=
  (.seq
   (.reg false [0] [
     ⟨some 2, none, (.mov (.c (.sl .full [])))⟩])
   (.seq
    (.reg false [3] [
      ⟨some 4, none, (.mov (.t 0))⟩,
      ⟨some 5, none, (.call (.c (.fn (.func 102) [] [])) [(.t 4)])⟩,
      ⟨some 3, none, (.mov (.t 5))⟩])
    (.seq
     (.reg false [3] [
       ⟨some 6, none, (.mov (.t 3))⟩,
       ⟨some 7, none, (.call (.c (.fn (.func 74) [] [])) [(.t 6)])⟩])
     (.seq
      (.reg false [2] [
        ⟨some 8, none, (.mov (.t 3))⟩,
        ⟨some 9, none, (.call (.c (.fn (.func 75) [] [])) [(.t 8)])⟩,
        ⟨some 2, none, (.mov (.t 9))⟩])
      .ret))))
theorem of_justify_union {vals : List AV} {bs : List Box} {Q : AV → List Box → Prop} (hn : vals.length ≤ 10) (h : (⟨params 0 vals, bs, bs.length⟩ : St).fo true fun s => rc_justify_union.go Try.prog true s (retN [.slot 2] Q)) : AM.Sem Try.prog 81 vals bs Q :=
  Sem.of (fn := Try.f81) (keeps := [(0, [0]), (1, [3]), (2, [3]), (3, [2])]) (solo := []) Try.func81 rfl (by kernel_rfl) (by kernel_rfl) (by kernel_rfl) hn (run_of h)
theorem op_justify_union {vals : List AV} {bs : List Box} {Q : AV → List Box → Prop} (hn : vals.length ≤ 10) (h : (⟨params 0 vals, bs, bs.length⟩ : St).fo true fun s => rc_justify_union.gp Try.prog true s (retP [.slot 2] Q)) : AM.Sem Try.prog 81 vals bs Q :=
  Sem.nrm (Sem.of (fn := Try.f81) (keeps := [(0, [0]), (1, [3]), (2, [3]), (3, [2])]) (solo := []) Try.func81 rfl (by kernel_rfl) (by kernel_rfl) (by kernel_rfl) hn (run_gp h))

def rc_justify_Right : RC :=
  (.seq
   (.reg false [0] [
     ⟨some 2, none, (.mov (.c (.bool false)))⟩])
   (.seq
    (.seq
     (.reg false [0, 5, 6, 7] [
       ⟨some 5, none, (.mov (.t 0))⟩,
       ⟨some 6, none, (.len false (.t 5))⟩,
       ⟨some 7, none, (.mov (.c (.int .i64 0)))⟩])
     (.block 0
      (.loop
       (.seq
        (.reg false [0, 5, 6, 7, 8] [
          ⟨some 8, none, (.bin .lss (.t 7) (.t 6))⟩])
        (.seq
         (.cond (.t 8)
          .skip
          (.exit 0))
         (.seq
          (.block 1
           (.seq
            (.reg false [0, 3, 4, 5, 6, 7] [
              ⟨some 9, none, (.mov (.t 7))⟩,
              ⟨some 10, none, (.idx 1 (.t 5) (.t 7))⟩,
              ⟨some 11, none, (.load false 1 (.t 10))⟩,
              ⟨some 3, none, (.mov (.t 9))⟩,
              ⟨some 4, none, (.mov (.t 11))⟩])
            (.seq
             (.reg false [0, 5, 6, 7, 30] [
               ⟨some 12, none, (.mov (.t 4))⟩,
               ⟨some 13, none, (.bin .lss (.t 12) (.c (.int .i64 1)))⟩,
               ⟨some 14, none, (.mov (.t 13))⟩,
               ⟨some 15, some (14, false), (.mov (.t 4))⟩,
               ⟨some 16, some (14, false), (.bin .gtr (.t 15) (.c (.int .i64 64)))⟩,
               ⟨some 17, none, (.pick (.t 14) (.c (.bool true)) (.t 16))⟩,
               ⟨some 18, none, (.mov (.t 17))⟩,
               ⟨some 19, some (18, false), (.mov (.t 3))⟩,
               ⟨some 20, some (18, false), (.bin .gtr (.t 19) (.c (.int .i64 0)))⟩,
               ⟨some 21, some (18, false), (.mov (.t 20))⟩,
               ⟨some 22, some (21, true), (.mov (.t 0))⟩,
               ⟨some 23, some (21, true), (.mov (.t 3))⟩,
               ⟨some 24, some (21, true), (.bin .sub (.t 23) (.c (.int .i64 1)))⟩,
               ⟨some 25, some (21, true), (.idx 1 (.t 22) (.t 24))⟩,
               ⟨some 26, some (21, true), (.load false 1 (.t 25))⟩,
               ⟨some 27, some (21, true), (.mov (.t 4))⟩,
               ⟨some 28, some (21, true), (.bin .geq (.t 26) (.t 27))⟩,
               ⟨some 29, some (18, false), (.pick (.t 21) (.t 28) (.c (.bool false)))⟩,
               ⟨some 30, none, (.pick (.t 18) (.c (.bool true)) (.t 29))⟩])
             (.cond (.t 30)
              (.seq
               (.reg false [2] [
                 ⟨some 2, none, (.mov (.c (.bool false)))⟩])
               .ret)
              .skip))))
          (.reg false [0, 5, 6, 7] [
            ⟨some 31, none, (.bin .add (.t 7) (.c (.int .i64 1)))⟩,
            ⟨some 7, none, (.mov (.t 31))⟩])))))))
    (.seq
     (.reg false [2] [
       ⟨some 2, none, (.mov (.c (.bool true)))⟩])
     .ret)))
theorem of_justify_Right {vals : List AV} {bs : List Box} {Q : AV → List Box → Prop} (hn : vals.length ≤ 32) (h : (⟨params 0 vals, bs, bs.length⟩ : St).fo true fun s => rc_justify_Right.go Try.prog true s (retN [.slot 2] Q)) : AM.Sem Try.prog 39 vals bs Q :=
  Sem.of (fn := Try.f39) (keeps := [(0, [0]), (1, [0, 5, 6, 7]), (2, [0, 5, 6, 7, 8]), (3, [0, 3, 4, 5, 6, 7]), (4, [0, 5, 6, 7, 30]), (5, [2]), (6, [0, 5, 6, 7]), (7, [2])]) (solo := []) Try.func39 rfl (by kernel_rfl) (by kernel_rfl) (by kernel_rfl) hn (run_of h)
theorem op_justify_Right {vals : List AV} {bs : List Box} {Q : AV → List Box → Prop} (hn : vals.length ≤ 32) (h : (⟨params 0 vals, bs, bs.length⟩ : St).fo true fun s => rc_justify_Right.gp Try.prog true s (retP [.slot 2] Q)) : AM.Sem Try.prog 39 vals bs Q :=
  Sem.nrm (Sem.of (fn := Try.f39) (keeps := [(0, [0]), (1, [0, 5, 6, 7]), (2, [0, 5, 6, 7, 8]), (3, [0, 3, 4, 5, 6, 7]), (4, [0, 5, 6, 7, 30]), (5, [2]), (6, [0, 5, 6, 7]), (7, [2])]) (solo := []) Try.func39 rfl (by kernel_rfl) (by kernel_rfl) (by kernel_rfl) hn (run_gp h))

def rc_justify_Union : RC :=
  (.seq
   (.reg false [0, 1] [
     ⟨some 4, none, (.mov (.c (.sl .full [])))⟩])
   (.seq
    (.reg false [4] [
      ⟨some 5, none, (.mov (.t 0))⟩,
      ⟨some 6, none, (.mov (.t 1))⟩,
      ⟨some 7, none, (.bslice 1 [(.t 5), (.t 6)])⟩,
      ⟨some 8, none, (.call (.c (.fn (.func 81) [] [])) [(.t 7)])⟩,
      ⟨some 4, none, (.mov (.t 8))⟩])
    .ret))
theorem of_justify_Union {vals : List AV} {bs : List Box} {Q : AV → List Box → Prop} (hn : vals.length ≤ 9) (h : (⟨params 0 vals, bs, bs.length⟩ : St).fo true fun s => rc_justify_Union.go Try.prog true s (retN [.slot 4] Q)) : AM.Sem Try.prog 41 vals bs Q :=
  Sem.of (fn := Try.f41) (keeps := [(0, [0, 1]), (1, [4])]) (solo := []) Try.func41 rfl (by kernel_rfl) (by kernel_rfl) (by kernel_rfl) hn (run_of h)
theorem op_justify_Union {vals : List AV} {bs : List Box} {Q : AV → List Box → Prop} (hn : vals.length ≤ 9) (h : (⟨params 0 vals, bs, bs.length⟩ : St).fo true fun s => rc_justify_Union.gp Try.prog true s (retP [.slot 4] Q)) : AM.Sem Try.prog 41 vals bs Q :=
  Sem.nrm (Sem.of (fn := Try.f41) (keeps := [(0, [0, 1]), (1, [4])]) (solo := []) Try.func41 rfl (by kernel_rfl) (by kernel_rfl) (by kernel_rfl) hn (run_gp h))

def rc_justify_Has : RC :=
  (.seq
   (.reg false [0, 1] [
     ⟨some 4, none, (.mov (.c (.bool false)))⟩])
   (.seq
    (.reg false [4] [
      ⟨some 5, none, (.mov (.t 0))⟩,
      ⟨some 6, none, (.mov (.t 1))⟩,
      ⟨some 7, none, (.call (.c (.fn (.func 83) [] [])) [(.t 5), (.t 6)])⟩,
      ⟨some 4, none, (.mov (.t 7))⟩])
    .ret))
theorem of_justify_Has {vals : List AV} {bs : List Box} {Q : AV → List Box → Prop} (hn : vals.length ≤ 8) (h : (⟨params 0 vals, bs, bs.length⟩ : St).fo true fun s => rc_justify_Has.go Try.prog true s (retN [.slot 4] Q)) : AM.Sem Try.prog 43 vals bs Q :=
  Sem.of (fn := Try.f43) (keeps := [(0, [0, 1]), (1, [4])]) (solo := []) Try.func43 rfl (by kernel_rfl) (by kernel_rfl) (by kernel_rfl) hn (run_of h)
theorem op_justify_Has {vals : List AV} {bs : List Box} {Q : AV → List Box → Prop} (hn : vals.length ≤ 8) (h : (⟨params 0 vals, bs, bs.length⟩ : St).fo true fun s => rc_justify_Has.gp Try.prog true s (retP [.slot 4] Q)) : AM.Sem Try.prog 43 vals bs Q :=
  Sem.nrm (Sem.of (fn := Try.f43) (keeps := [(0, [0, 1]), (1, [4])]) (solo := []) Try.func43 rfl (by kernel_rfl) (by kernel_rfl) (by kernel_rfl) hn (run_gp h))

def rc_justify_Of : RC :=
  (.seq
   (.reg false [0] [
     ⟨some 2, none, (.mov (.c (.sl .full [])))⟩])
   (.seq
    (.reg false [0, 3] [
      ⟨some 3, none, (.mov (.c (.sl .full [])))⟩])
    (.seq
     (.seq
      (.reg false [0, 3, 6, 7] [
        ⟨some 5, none, (.mov (.t 0))⟩,
        ⟨some 6, none, (.len false (.t 5))⟩,
        ⟨some 7, none, (.mov (.c (.int .i64 0)))⟩])
      (.block 0
       (.loop
        (.seq
         (.reg false [0, 3, 6, 7, 8] [
           ⟨some 8, none, (.bin .lss (.t 7) (.t 6))⟩])
         (.seq
          (.cond (.t 8)
           .skip
           (.exit 0))
          (.seq
           (.block 1
            (.seq
             (.reg false [0, 3, 4, 6, 7] [
               ⟨some 9, none, (.mov (.t 7))⟩,
               ⟨some 4, none, (.mov (.t 9))⟩])
             (.reg false [0, 3, 6, 7] [
               ⟨some 10, none, (.mov (.t 3))⟩,
               ⟨some 11, none, (.mov (.t 0))⟩,
               ⟨some 12, none, (.mov (.t 4))⟩,
               ⟨some 13, none, (.idx 4 (.t 11) (.t 12))⟩,
               ⟨some 14, none, (.fptr 3 (.t 13))⟩,
               ⟨some 15, none, (.load false 1 (.t 14))⟩,
               ⟨some 16, none, (.bslice 1 [(.t 15)])⟩,
               ⟨some 17, none, (.append 1 (.t 10) (.t 16))⟩,
               ⟨some 3, none, (.mov (.t 17))⟩])))
           (.reg false [0, 3, 6, 7] [
             ⟨some 18, none, (.bin .add (.t 7) (.c (.int .i64 1)))⟩,
             ⟨some 7, none, (.mov (.t 18))⟩])))))))
     (.seq
      (.reg false [2] [
        ⟨some 19, none, (.mov (.t 3))⟩,
        ⟨some 20, none, (.call (.c (.fn (.func 81) [] [])) [(.t 19)])⟩,
        ⟨some 2, none, (.mov (.t 20))⟩])
      .ret))))
theorem of_justify_Of {vals : List AV} {bs : List Box} {Q : AV → List Box → Prop} (hn : vals.length ≤ 21) (h : (⟨params 0 vals, bs, bs.length⟩ : St).fo true fun s => rc_justify_Of.go Try.prog true s (retN [.slot 2] Q)) : AM.Sem Try.prog 50 vals bs Q :=
  Sem.of (fn := Try.f50) (keeps := [(0, [0]), (1, [0, 3]), (2, [0, 3, 6, 7]), (3, [0, 3, 6, 7, 8]), (4, [0, 3, 4, 6, 7]), (5, [0, 3, 6, 7]), (6, [0, 3, 6, 7]), (7, [2])]) (solo := []) Try.func50 rfl (by kernel_rfl) (by kernel_rfl) (by kernel_rfl) hn (run_of h)
theorem op_justify_Of {vals : List AV} {bs : List Box} {Q : AV → List Box → Prop} (hn : vals.length ≤ 21) (h : (⟨params 0 vals, bs, bs.length⟩ : St).fo true fun s => rc_justify_Of.gp Try.prog true s (retP [.slot 2] Q)) : AM.Sem Try.prog 50 vals bs Q :=
  Sem.nrm (Sem.of (fn := Try.f50) (keeps := [(0, [0]), (1, [0, 3]), (2, [0, 3, 6, 7]), (3, [0, 3, 6, 7, 8]), (4, [0, 3, 4, 6, 7]), (5, [0, 3, 6, 7]), (6, [0, 3, 6, 7]), (7, [2])]) (solo := []) Try.func50 rfl (by kernel_rfl) (by kernel_rfl) (by kernel_rfl) hn (run_gp h))

def rc_justify_Find : RC :=
  (.seq
   (.reg false [0, 1, 4] [
     ⟨some 4, none, (.box (.c (.agg [(.int .i64 0), (.str ⟨⟨[]⟩⟩), (.sl .full []), (.sl .full [])])))⟩,
     ⟨some 5, none, (.mov (.c (.bool false)))⟩])
   (.seq
    (.seq
     (.reg false [0, 1, 4, 8, 9] [
       ⟨some 7, none, (.mov (.t 0))⟩,
       ⟨some 8, none, (.len false (.t 7))⟩,
       ⟨some 9, none, (.mov (.c (.int .i64 0)))⟩])
     (.block 0
      (.loop
       (.seq
        (.reg false [0, 1, 4, 8, 9, 10] [
          ⟨some 10, none, (.bin .lss (.t 9) (.t 8))⟩])
        (.seq
         (.cond (.t 10)
          .skip
          (.exit 0))
         (.seq
          (.block 1
           (.seq
            (.reg false [0, 1, 4, 6, 8, 9] [
              ⟨some 11, none, (.mov (.t 9))⟩,
              ⟨some 6, none, (.mov (.t 11))⟩])
            (.seq
             (.reg false [0, 1, 4, 6, 8, 9, 18] [
               ⟨some 12, none, (.mov (.t 0))⟩,
               ⟨some 13, none, (.mov (.t 6))⟩,
               ⟨some 14, none, (.idx 4 (.t 12) (.t 13))⟩,
               ⟨some 15, none, (.fptr 0 (.t 14))⟩,
               ⟨some 16, none, (.load false 1 (.t 15))⟩,
               ⟨some 17, none, (.mov (.t 1))⟩,
               ⟨some 18, none, (.bin .eql (.t 16) (.t 17))⟩])
             (.cond (.t 18)
              (.seq
               (.reg false [4, 5] [
                 ⟨some 19, none, (.mov (.t 0))⟩,
                 ⟨some 20, none, (.mov (.t 6))⟩,
                 ⟨some 21, none, (.idx 4 (.t 19) (.t 20))⟩,
                 ⟨some 22, none, (.load true 4 (.t 21))⟩,
                 ⟨none, none, (.store 4 (.t 4) (.t 22))⟩,
                 ⟨some 5, none, (.mov (.c (.bool true)))⟩])
               .ret)
              .skip))))
          (.reg false [0, 1, 4, 8, 9] [
            ⟨some 23, none, (.bin .add (.t 9) (.c (.int .i64 1)))⟩,
            ⟨some 9, none, (.mov (.t 23))⟩])))))))
    (.seq
     (.reg false [4, 5] [
       ⟨some 24, none, (.build [(.int .i64 0), (.str ⟨⟨[]⟩⟩), (.sl .full []), (.sl .full [])] [])⟩,
       ⟨none, none, (.store 4 (.t 4) (.t 24))⟩,
       ⟨some 5, none, (.mov (.c (.bool false)))⟩])
     .ret)))
theorem of_justify_Find {vals : List AV} {bs : List Box} {Q : AV → List Box → Prop} (hn : vals.length ≤ 25) (h : (⟨params 0 vals, bs, bs.length⟩ : St).fo true fun s => rc_justify_Find.go Try.prog true s (retN [.cell 4 true 4, .slot 5] Q)) : AM.Sem Try.prog 47 vals bs Q :=
  Sem.of (fn := Try.f47) (keeps := [(0, [0, 1, 4]), (1, [0, 1, 4, 8, 9]), (2, [0, 1, 4, 8, 9, 10]), (3, [0, 1, 4, 6, 8, 9]), (4, [0, 1, 4, 6, 8, 9, 18]), (5, [4, 5]), (6, [0, 1, 4, 8, 9]), (7, [4, 5])]) (solo := []) Try.func47 rfl (by kernel_rfl) (by kernel_rfl) (by kernel_rfl) hn (run_of h)
theorem op_justify_Find {vals : List AV} {bs : List Box} {Q : AV → List Box → Prop} (hn : vals.length ≤ 25) (h : (⟨params 0 vals, bs, bs.length⟩ : St).fo true fun s => rc_justify_Find.gp Try.prog true s (retP [.cell 4 true 4, .slot 5] Q)) : AM.Sem Try.prog 47 vals bs Q :=
  Sem.nrm (Sem.of (fn := Try.f47) (keeps := [(0, [0, 1, 4]), (1, [0, 1, 4, 8, 9]), (2, [0, 1, 4, 8, 9, 10]), (3, [0, 1, 4, 6, 8, 9]), (4, [0, 1, 4, 6, 8, 9, 18]), (5, [4, 5]), (6, [0, 1, 4, 8, 9]), (7, [4, 5])]) (solo := []) Try.func47 rfl (by kernel_rfl) (by kernel_rfl) (by kernel_rfl) hn (run_gp h))

def rc_justify_Same : RC :=
  (.seq
   (.reg false [2, 3] [
     ⟨some 2, none, (.box (.t 0))⟩,
     ⟨some 3, none, (.box (.t 1))⟩,
     ⟨some 4, none, (.mov (.c (.bool false)))⟩])
   (.seq
    (.reg false [4] [
      ⟨some 5, none, (.fptr 0 (.t 2))⟩,
      ⟨some 6, none, (.load false 1 (.t 5))⟩,
      ⟨some 7, none, (.fptr 0 (.t 3))⟩,
      ⟨some 8, none, (.load false 1 (.t 7))⟩,
      ⟨some 9, none, (.bin .eql (.t 6) (.t 8))⟩,
      ⟨some 10, none, (.mov (.t 9))⟩,
      ⟨some 11, some (10, true), (.fptr 1 (.t 2))⟩,
      ⟨some 12, some (10, true), (.load true 2 (.t 11))⟩,
      ⟨some 13, some (10, true), (.fptr 1 (.t 3))⟩,
      ⟨some 14, some (10, true), (.load true 2 (.t 13))⟩,
      ⟨some 15, some (10, true), (.call (.c (.fn (.func 86) [] [])) [(.t 12), (.t 14)])⟩,
      ⟨some 16, none, (.pick (.t 10) (.t 15) (.c (.bool false)))⟩,
      ⟨some 17, none, (.mov (.t 16))⟩,
      ⟨some 18, some (17, true), (.fptr 3 (.t 2))⟩,
      ⟨some 19, some (17, true), (.load false 1 (.t 18))⟩,
      ⟨some 20, some (17, true), (.fptr 3 (.t 3))⟩,
      ⟨some 21, some (17, true), (.load false 1 (.t 20))⟩,
      ⟨some 22, some (17, true), (.call (.c (.fn (.func 87) [] [])) [(.t 19), (.t 21)])⟩,
      ⟨some 23, none, (.pick (.t 17) (.t 22) (.c (.bool false)))⟩,
      ⟨some 4, none, (.mov (.t 23))⟩])
    .ret))
theorem of_justify_Same {vals : List AV} {bs : List Box} {Q : AV → List Box → Prop} (hn : vals.length ≤ 24) (h : (⟨params 0 vals, bs, bs.length⟩ : St).fo true fun s => rc_justify_Same.go Try.prog true s (retN [.slot 4] Q)) : AM.Sem Try.prog 52 vals bs Q :=
  Sem.of (fn := Try.f52) (keeps := [(0, [2, 3]), (1, [4])]) (solo := []) Try.func52 rfl (by kernel_rfl) (by kernel_rfl) (by kernel_rfl) hn (run_of h)
theorem op_justify_Same {vals : List AV} {bs : List Box} {Q : AV → List Box → Prop} (hn : vals.length ≤ 24) (h : (⟨params 0 vals, bs, bs.length⟩ : St).fo true fun s => rc_justify_Same.gp Try.prog true s (retP [.slot 4] Q)) : AM.Sem Try.prog 52 vals bs Q :=
  Sem.nrm (Sem.of (fn := Try.f52) (keeps := [(0, [2, 3]), (1, [4])]) (solo := []) Try.func52 rfl (by kernel_rfl) (by kernel_rfl) (by kernel_rfl) hn (run_gp h))

def rc_slices_Contains_int_int : RC :=
  (.seq
   (.reg false [0, 1] [
     ⟨some 4, none, (.mov (.c (.bool false)))⟩])
   (.seq
    (.reg false [4] [
      ⟨some 5, none, (.mov (.t 0))⟩,
      ⟨some 6, none, (.mov (.t 1))⟩,
      ⟨some 7, none, (.call (.c (.fn (.func 103) [] [])) [(.t 5), (.t 6)])⟩,
      ⟨some 8, none, (.bin .geq (.t 7) (.c (.int .i64 0)))⟩,
      ⟨some 4, none, (.mov (.t 8))⟩])
    .ret))
theorem of_slices_Contains_int_int {vals : List AV} {bs : List Box} {Q : AV → List Box → Prop} (hn : vals.length ≤ 9) (h : (⟨params 0 vals, bs, bs.length⟩ : St).fo true fun s => rc_slices_Contains_int_int.go Try.prog true s (retN [.slot 4] Q)) : AM.Sem Try.prog 83 vals bs Q :=
  Sem.of (fn := Try.f83) (keeps := [(0, [0, 1]), (1, [4])]) (solo := []) Try.func83 rfl (by kernel_rfl) (by kernel_rfl) (by kernel_rfl) hn (run_of h)
theorem op_slices_Contains_int_int {vals : List AV} {bs : List Box} {Q : AV → List Box → Prop} (hn : vals.length ≤ 9) (h : (⟨params 0 vals, bs, bs.length⟩ : St).fo true fun s => rc_slices_Contains_int_int.gp Try.prog true s (retP [.slot 4] Q)) : AM.Sem Try.prog 83 vals bs Q :=
  Sem.nrm (Sem.of (fn := Try.f83) (keeps := [(0, [0, 1]), (1, [4])]) (solo := []) Try.func83 rfl (by kernel_rfl) (by kernel_rfl) (by kernel_rfl) hn (run_gp h))

def rc_slices_Index_int_int : RC :=
  (.seq
   (.reg false [0, 1] [
     ⟨some 4, none, (.mov (.c (.int .i64 0)))⟩])
   (.seq
    (.seq
     (.reg false [0, 1, 7, 8] [
       ⟨some 6, none, (.mov (.t 0))⟩,
       ⟨some 7, none, (.len false (.t 6))⟩,
       ⟨some 8, none, (.mov (.c (.int .i64 0)))⟩])
     (.block 0
      (.loop
       (.seq
        (.reg false [0, 1, 7, 8, 9] [
          ⟨some 9, none, (.bin .lss (.t 8) (.t 7))⟩])
        (.seq
         (.cond (.t 9)
          .skip
          (.exit 0))
         (.seq
          (.block 1
           (.seq
            (.reg false [0, 1, 5, 7, 8] [
              ⟨some 10, none, (.mov (.t 8))⟩,
              ⟨some 5, none, (.mov (.t 10))⟩])
            (.seq
             (.reg false [0, 1, 5, 7, 8, 16] [
               ⟨some 11, none, (.mov (.t 1))⟩,
               ⟨some 12, none, (.mov (.t 0))⟩,
               ⟨some 13, none, (.mov (.t 5))⟩,
               ⟨some 14, none, (.idx 1 (.t 12) (.t 13))⟩,
               ⟨some 15, none, (.load false 1 (.t 14))⟩,
               ⟨some 16, none, (.bin .eql (.t 11) (.t 15))⟩])
             (.cond (.t 16)
              (.seq
               (.reg false [4] [
                 ⟨some 17, none, (.mov (.t 5))⟩,
                 ⟨some 4, none, (.mov (.t 17))⟩])
               .ret)
              .skip))))
          (.reg false [0, 1, 7, 8] [
            ⟨some 18, none, (.bin .add (.t 8) (.c (.int .i64 1)))⟩,
            ⟨some 8, none, (.mov (.t 18))⟩])))))))
    (.seq
     (.reg false [4] [
       ⟨some 4, none, (.mov (.c (.int .i64 (-1))))⟩])
     .ret)))
theorem of_slices_Index_int_int {vals : List AV} {bs : List Box} {Q : AV → List Box → Prop} (hn : vals.length ≤ 19) (h : (⟨params 0 vals, bs, bs.length⟩ : St).fo true fun s => rc_slices_Index_int_int.go Try.prog true s (retN [.slot 4] Q)) : AM.Sem Try.prog 103 vals bs Q :=
  Sem.of (fn := Try.f103) (keeps := [(0, [0, 1]), (1, [0, 1, 7, 8]), (2, [0, 1, 7, 8, 9]), (3, [0, 1, 5, 7, 8]), (4, [0, 1, 5, 7, 8, 16]), (5, [4]), (6, [0, 1, 7, 8]), (7, [4])]) (solo := []) Try.func103 rfl (by kernel_rfl) (by kernel_rfl) (by kernel_rfl) hn (run_of h)
theorem op_slices_Index_int_int {vals : List AV} {bs : List Box} {Q : AV → List Box → Prop} (hn : vals.length ≤ 19) (h : (⟨params 0 vals, bs, bs.length⟩ : St).fo true fun s => rc_slices_Index_int_int.gp Try.prog true s (retP [.slot 4] Q)) : AM.Sem Try.prog 103 vals bs Q :=
  Sem.nrm (Sem.of (fn := Try.f103) (keeps := [(0, [0, 1]), (1, [0, 1, 7, 8]), (2, [0, 1, 7, 8, 9]), (3, [0, 1, 5, 7, 8]), (4, [0, 1, 5, 7, 8, 16]), (5, [4]), (6, [0, 1, 7, 8]), (7, [4])]) (solo := []) Try.func103 rfl (by kernel_rfl) (by kernel_rfl) (by kernel_rfl) hn (run_gp h))

def rc_slices_Equal_int_int : RC :=
  (.seq
   (.reg false [0, 1] [
     ⟨some 4, none, (.mov (.c (.bool false)))⟩])
   (.seq
    (.seq
     (.reg false [0, 1, 10] [
       ⟨some 6, none, (.mov (.t 0))⟩,
       ⟨some 7, none, (.len false (.t 6))⟩,
       ⟨some 8, none, (.mov (.t 1))⟩,
       ⟨some 9, none, (.len false (.t 8))⟩,
       ⟨some 10, none, (.bin .neq (.t 7) (.t 9))⟩])
     (.cond (.t 10)
      (.seq
       (.reg false [4] [
         ⟨some 4, none, (.mov (.c (.bool false)))⟩])
       .ret)
      .skip))
    (.seq
     (.seq
      (.reg false [0, 1, 12, 13] [
        ⟨some 11, none, (.mov (.t 0))⟩,
        ⟨some 12, none, (.len false (.t 11))⟩,
        ⟨some 13, none, (.mov (.c (.int .i64 0)))⟩])
      (.block 0
       (.loop
        (.seq
         (.reg false [0, 1, 12, 13, 14] [
           ⟨some 14, none, (.bin .lss (.t 13) (.t 12))⟩])
         (.seq
          (.cond (.t 14)
           .skip
           (.exit 0))
          (.seq
           (.block 1
            (.seq
             (.reg false [0, 1, 5, 12, 13] [
               ⟨some 15, none, (.mov (.t 13))⟩,
               ⟨some 5, none, (.mov (.t 15))⟩])
             (.seq
              (.reg true [0, 1, 12, 13, 24] [
                ⟨some 16, none, (.mov (.t 0))⟩,
                ⟨some 17, none, (.mov (.t 5))⟩,
                ⟨some 18, none, (.idx 1 (.t 16) (.t 17))⟩,
                ⟨some 19, none, (.load false 1 (.t 18))⟩,
                ⟨some 20, none, (.mov (.t 1))⟩,
                ⟨some 21, none, (.mov (.t 5))⟩,
                ⟨some 22, none, (.idx 1 (.t 20) (.t 21))⟩,
                ⟨some 23, none, (.load false 1 (.t 22))⟩,
                ⟨some 24, none, (.bin .neq (.t 19) (.t 23))⟩])
              (.cond (.t 24)
               (.seq
                (.reg false [4] [
                  ⟨some 4, none, (.mov (.c (.bool false)))⟩])
                .ret)
               .skip))))
           (.reg false [0, 1, 12, 13] [
             ⟨some 25, none, (.bin .add (.t 13) (.c (.int .i64 1)))⟩,
             ⟨some 13, none, (.mov (.t 25))⟩])))))))
     (.seq
      (.reg false [4] [
        ⟨some 4, none, (.mov (.c (.bool true)))⟩])
      .ret))))
theorem of_slices_Equal_int_int {vals : List AV} {bs : List Box} {Q : AV → List Box → Prop} (hn : vals.length ≤ 26) (h : (⟨params 0 vals, bs, bs.length⟩ : St).fo true fun s => rc_slices_Equal_int_int.go Try.prog true s (retN [.slot 4] Q)) : AM.Sem Try.prog 87 vals bs Q :=
  Sem.of (fn := Try.f87) (keeps := [(0, [0, 1]), (1, [0, 1, 10]), (2, [4]), (3, [0, 1, 12, 13]), (4, [0, 1, 12, 13, 14]), (5, [0, 1, 5, 12, 13]), (6, [0, 1, 12, 13, 24]), (7, [4]), (8, [0, 1, 12, 13]), (9, [4])]) (solo := []) Try.func87 rfl (by kernel_rfl) (by kernel_rfl) (by kernel_rfl) hn (run_of h)
theorem op_slices_Equal_int_int {vals : List AV} {bs : List Box} {Q : AV → List Box → Prop} (hn : vals.length ≤ 26) (h : (⟨params 0 vals, bs, bs.length⟩ : St).fo true fun s => rc_slices_Equal_int_int.gp Try.prog true s (retP [.slot 4] Q)) : AM.Sem Try.prog 87 vals bs Q :=
  Sem.nrm (Sem.of (fn := Try.f87) (keeps := [(0, [0, 1]), (1, [0, 1, 10]), (2, [4]), (3, [0, 1, 12, 13]), (4, [0, 1, 12, 13, 14]), (5, [0, 1, 5, 12, 13]), (6, [0, 1, 12, 13, 24]), (7, [4]), (8, [0, 1, 12, 13]), (9, [4])]) (solo := []) Try.func87 rfl (by kernel_rfl) (by kernel_rfl) (by kernel_rfl) hn (run_gp h))

def rc_term_SameAtom : RC :=
  (.seq
   (.reg false [2, 3] [
     ⟨some 2, none, (.box (.t 0))⟩,
     ⟨some 3, none, (.box (.t 1))⟩,
     ⟨some 4, none, (.mov (.c (.bool false)))⟩])
   (.seq
    (.reg false [4] [
      ⟨some 5, none, (.load true 2 (.t 2))⟩,
      ⟨some 6, none, (.load true 2 (.t 3))⟩,
      ⟨some 7, none, (.call (.c (.fn (.func 106) [] [])) [(.t 5), (.t 6)])⟩,
      ⟨some 8, none, (.bin .eql (.t 7) (.c (.int .i64 0)))⟩,
      ⟨some 4, none, (.mov (.t 8))⟩])
    .ret))
theorem of_term_SameAtom {vals : List AV} {bs : List Box} {Q : AV → List Box → Prop} (hn : vals.length ≤ 9) (h : (⟨params 0 vals, bs, bs.length⟩ : St).fo true fun s => rc_term_SameAtom.go Try.prog true s (retN [.slot 4] Q)) : AM.Sem Try.prog 86 vals bs Q :=
  Sem.of (fn := Try.f86) (keeps := [(0, [2, 3]), (1, [4])]) (solo := []) Try.func86 rfl (by kernel_rfl) (by kernel_rfl) (by kernel_rfl) hn (run_of h)
theorem op_term_SameAtom {vals : List AV} {bs : List Box} {Q : AV → List Box → Prop} (hn : vals.length ≤ 9) (h : (⟨params 0 vals, bs, bs.length⟩ : St).fo true fun s => rc_term_SameAtom.gp Try.prog true s (retP [.slot 4] Q)) : AM.Sem Try.prog 86 vals bs Q :=
  Sem.nrm (Sem.of (fn := Try.f86) (keeps := [(0, [2, 3]), (1, [4])]) (solo := []) Try.func86 rfl (by kernel_rfl) (by kernel_rfl) (by kernel_rfl) hn (run_gp h))

def rc_term_CompareAtom : RC :=
  (.seq
   (.reg false [2, 3] [
     ⟨some 2, none, (.box (.t 0))⟩,
     ⟨some 3, none, (.box (.t 1))⟩,
     ⟨some 4, none, (.mov (.c (.int .i64 0)))⟩])
   (.seq
    (.seq
     (.reg true [2, 3, 5] [
       ⟨some 6, none, (.fptr 0 (.t 2))⟩,
       ⟨some 7, none, (.load false 1 (.t 6))⟩,
       ⟨some 8, none, (.fptr 0 (.t 3))⟩,
       ⟨some 9, none, (.load false 1 (.t 8))⟩,
       ⟨some 10, none, (.call (.c (.fn (.func 127) [] [])) [(.t 7), (.t 9)])⟩,
       ⟨some 11, none, (.fptr 1 (.t 2))⟩,
       ⟨some 12, none, (.load false 1 (.t 11))⟩,
       ⟨some 13, none, (.len false (.t 12))⟩,
       ⟨some 14, none, (.fptr 1 (.t 3))⟩,
       ⟨some 15, none, (.load false 1 (.t 14))⟩,
       ⟨some 16, none, (.len false (.t 15))⟩,
       ⟨some 17, none, (.call (.c (.fn (.func 128) [] [])) [(.t 13), (.t 16)])⟩,
       ⟨some 18, none, (.bslice 1 [(.t 10), (.t 17)])⟩,
       ⟨some 19, none, (.call (.c (.fn (.func 126) [] [])) [(.t 18)])⟩,
       ⟨some 5, none, (.take 19)⟩])
     (.seq
      (.reg false [2, 3, 5, 21] [
        ⟨some 20, none, (.mov (.t 5))⟩,
        ⟨some 21, none, (.bin .neq (.t 20) (.c (.int .i64 0)))⟩])
      (.cond (.t 21)
       (.seq
        (.reg false [4] [
          ⟨some 22, none, (.mov (.t 5))⟩,
          ⟨some 4, none, (.mov (.t 22))⟩])
        .ret)
       .skip)))
    (.seq
     (.reg false [4] [
       ⟨some 23, none, (.fptr 1 (.t 2))⟩,
       ⟨some 24, none, (.load false 1 (.t 23))⟩,
       ⟨some 25, none, (.fptr 1 (.t 3))⟩,
       ⟨some 26, none, (.load false 1 (.t 25))⟩,
       ⟨some 27, none, (.call (.c (.fn (.func 129) [] [])) [(.t 24), (.t 26)])⟩,
       ⟨some 4, none, (.mov (.t 27))⟩])
     .ret)))
theorem of_term_CompareAtom {vals : List AV} {bs : List Box} {Q : AV → List Box → Prop} (hn : vals.length ≤ 28) (h : (⟨params 0 vals, bs, bs.length⟩ : St).fo true fun s => rc_term_CompareAtom.go Try.prog true s (retN [.slot 4] Q)) : AM.Sem Try.prog 106 vals bs Q :=
  Sem.of (fn := Try.f106) (keeps := [(0, [2, 3]), (1, [2, 3, 5]), (2, [2, 3, 5, 21]), (3, [4]), (4, [4])]) (solo := []) Try.func106 rfl (by kernel_rfl) (by kernel_rfl) (by kernel_rfl) hn (run_of h)
theorem op_term_CompareAtom {vals : List AV} {bs : List Box} {Q : AV → List Box → Prop} (hn : vals.length ≤ 28) (h : (⟨params 0 vals, bs, bs.length⟩ : St).fo true fun s => rc_term_CompareAtom.gp Try.prog true s (retP [.slot 4] Q)) : AM.Sem Try.prog 106 vals bs Q :=
  Sem.nrm (Sem.of (fn := Try.f106) (keeps := [(0, [2, 3]), (1, [2, 3, 5]), (2, [2, 3, 5, 21]), (3, [4]), (4, [4])]) (solo := []) Try.func106 rfl (by kernel_rfl) (by kernel_rfl) (by kernel_rfl) hn (run_gp h))

def rc_term_Compare : RC :=
  (.seq
   (.reg false [2, 3] [
     ⟨some 2, none, (.box (.t 0))⟩,
     ⟨some 3, none, (.box (.t 1))⟩,
     ⟨some 4, none, (.mov (.c (.int .i64 0)))⟩])
   (.seq
    (.seq
     (.reg true [2, 3, 5] [
       ⟨some 8, none, (.fptr 0 (.t 2))⟩,
       ⟨some 9, none, (.load false 1 (.t 8))⟩,
       ⟨some 10, none, (.call (.c (.fn (.func 140) [] [])) [(.t 9)])⟩,
       ⟨some 11, none, (.fptr 0 (.t 3))⟩,
       ⟨some 12, none, (.load false 1 (.t 11))⟩,
       ⟨some 13, none, (.call (.c (.fn (.func 140) [] [])) [(.t 12)])⟩,
       ⟨some 14, none, (.call (.c (.fn (.func 128) [] [])) [(.t 10), (.t 13)])⟩,
       ⟨some 5, none, (.take 14)⟩])
     (.seq
      (.reg false [2, 3, 5, 16] [
        ⟨some 15, none, (.mov (.t 5))⟩,
        ⟨some 16, none, (.bin .neq (.t 15) (.c (.int .i64 0)))⟩])
      (.cond (.t 16)
       (.seq
        (.reg false [4] [
          ⟨some 17, none, (.mov (.t 5))⟩,
          ⟨some 4, none, (.mov (.t 17))⟩])
        .ret)
       .skip)))
    (.seq
     (.seq
      (.reg false [2, 3, 20] [
        ⟨some 18, none, (.fptr 0 (.t 2))⟩,
        ⟨some 19, none, (.load false 1 (.t 18))⟩,
        ⟨some 20, none, (.call (.c (.fn (.func 140) [] [])) [(.t 19)])⟩])
      (.block 0
       (.seq
        (.seq
         (.reg false [2, 3, 20, 21] [
           ⟨some 22, none, (.bin .eql (.t 20) (.c (.int .i64 0)))⟩,
           ⟨some 21, none, (.mov (.t 22))⟩])
         (.cond (.t 21)
          .skip
          (.reg false [2, 3, 20, 21] [
            ⟨some 23, none, (.bin .eql (.t 20) (.c (.int .i64 1)))⟩,
            ⟨some 21, none, (.mov (.t 23))⟩])))
        (.cond (.t 21)
         (.seq
          (.reg false [4] [
            ⟨some 24, none, (.fptr 1 (.t 2))⟩,
            ⟨some 25, none, (.load false 1 (.t 24))⟩,
            ⟨some 26, none, (.fptr 1 (.t 3))⟩,
            ⟨some 27, none, (.load false 1 (.t 26))⟩,
            ⟨some 28, none, (.call (.c (.fn (.func 128) [] [])) [(.t 25), (.t 27)])⟩,
            ⟨some 4, none, (.mov (.t 28))⟩])
          .ret)
         (.seq
          (.reg false [2, 3, 29] [
            ⟨some 30, none, (.bin .eql (.t 20) (.c (.int .i64 2)))⟩,
            ⟨some 29, none, (.mov (.t 30))⟩])
          (.cond (.t 29)
           (.seq
            (.seq
             (.reg false [2, 3, 6] [
               ⟨some 31, none, (.fptr 3 (.t 2))⟩,
               ⟨some 32, none, (.load false 1 (.t 31))⟩,
               ⟨some 33, none, (.len false (.t 32))⟩,
               ⟨some 34, none, (.fptr 3 (.t 3))⟩,
               ⟨some 35, none, (.load false 1 (.t 34))⟩,
               ⟨some 36, none, (.len false (.t 35))⟩,
               ⟨some 37, none, (.call (.c (.fn (.func 128) [] [])) [(.t 33), (.t 36)])⟩,
               ⟨some 6, none, (.mov (.t 37))⟩])
             (.seq
              (.reg false [2, 3, 6, 39] [
                ⟨some 38, none, (.mov (.t 6))⟩,
                ⟨some 39, none, (.bin .neq (.t 38) (.c (.int .i64 0)))⟩])
              (.cond (.t 39)
               (.seq
                (.reg false [4] [
                  ⟨some 40, none, (.mov (.t 6))⟩,
                  ⟨some 4, none, (.mov (.t 40))⟩])
                .ret)
               .skip)))
            (.seq
             (.seq
              (.reg false [2, 3, 7] [
                ⟨some 41, none, (.fptr 2 (.t 2))⟩,
                ⟨some 42, none, (.load false 1 (.t 41))⟩,
                ⟨some 43, none, (.fptr 2 (.t 3))⟩,
                ⟨some 44, none, (.load false 1 (.t 43))⟩,
                ⟨some 45, none, (.call (.c (.fn (.func 127) [] [])) [(.t 42), (.t 44)])⟩,
                ⟨some 7, none, (.mov (.t 45))⟩])
              (.seq
               (.reg false [2, 3, 7, 47] [
                 ⟨some 46, none, (.mov (.t 7))⟩,
                 ⟨some 47, none, (.bin .neq (.t 46) (.c (.int .i64 0)))⟩])
               (.cond (.t 47)
                (.seq
                 (.reg false [4] [
                   ⟨some 48, none, (.mov (.t 7))⟩,
                   ⟨some 4, none, (.mov (.t 48))⟩])
                 .ret)
                .skip)))
             (.seq
              (.reg false [4] [
                ⟨some 49, none, (.fptr 3 (.t 2))⟩,
                ⟨some 50, none, (.load false 1 (.t 49))⟩,
                ⟨some 51, none, (.fptr 3 (.t 3))⟩,
                ⟨some 52, none, (.load false 1 (.t 51))⟩,
                ⟨some 53, none, (.call (.c (.fn (.func 129) [] [])) [(.t 50), (.t 52)])⟩,
                ⟨some 4, none, (.mov (.t 53))⟩])
              .ret)))
           .skip))))))
     (.seq
      (.reg true [4] [
        ⟨some 54, none, (.fptr 0 (.t 2))⟩,
        ⟨some 55, none, (.load false 1 (.t 54))⟩,
        ⟨some 56, none, (.fptr 0 (.t 3))⟩,
        ⟨some 57, none, (.load false 1 (.t 56))⟩,
        ⟨some 58, none, (.call (.c (.fn (.func 128) [] [])) [(.t 55), (.t 57)])⟩,
        ⟨some 59, none, (.fptr 1 (.t 2))⟩,
        ⟨some 60, none, (.load false 1 (.t 59))⟩,
        ⟨some 61, none, (.fptr 1 (.t 3))⟩,
        ⟨some 62, none, (.load false 1 (.t 61))⟩,
        ⟨some 63, none, (.call (.c (.fn (.func 128) [] [])) [(.t 60), (.t 62)])⟩,
        ⟨some 64, none, (.fptr 2 (.t 2))⟩,
        ⟨some 65, none, (.load false 1 (.t 64))⟩,
        ⟨some 66, none, (.fptr 2 (.t 3))⟩,
        ⟨some 67, none, (.load false 1 (.t 66))⟩,
        ⟨some 68, none, (.call (.c (.fn (.func 127) [] [])) [(.t 65), (.t 67)])⟩,
        ⟨some 69, none, (.bslice 1 [(.t 58), (.t 63), (.t 68)])⟩,
        ⟨some 70, none, (.call (.c (.fn (.func 126) [] [])) [(.t 69)])⟩,
        ⟨some 4, none, (.take 70)⟩])
      .ret))))
theorem of_term_Compare {vals : List AV} {bs : List Box} {Q : AV → List Box → Prop} (hn : vals.length ≤ 71) (h : (⟨params 0 vals, bs, bs.length⟩ : St).fo true fun s => rc_term_Compare.go Try.prog true s (retN [.slot 4] Q)) : AM.Sem Try.prog 138 vals bs Q :=
  Sem.of (fn := Try.f138) (keeps := [(0, [2, 3]), (1, [2, 3, 5]), (2, [2, 3, 5, 16]), (3, [4]), (4, [2, 3, 20]), (5, [2, 3, 20, 21]), (6, [2, 3, 20, 21]), (8, [2, 3, 29]), (9, [2, 3, 6]), (10, [2, 3, 6, 39]), (11, [4]), (12, [2, 3, 7]), (13, [2, 3, 7, 47]), (14, [4]), (15, [4]), (7, [4]), (16, [4])]) (solo := []) Try.func138 rfl (by kernel_rfl) (by kernel_rfl) (by kernel_rfl) hn (run_of h)
theorem op_term_Compare {vals : List AV} {bs : List Box} {Q : AV → List Box → Prop} (hn : vals.length ≤ 71) (h : (⟨params 0 vals, bs, bs.length⟩ : St).fo true fun s => rc_term_Compare.gp Try.prog true s (retP [.slot 4] Q)) : AM.Sem Try.prog 138 vals bs Q :=
  Sem.nrm (Sem.of (fn := Try.f138) (keeps := [(0, [2, 3]), (1, [2, 3, 5]), (2, [2, 3, 5, 16]), (3, [4]), (4, [2, 3, 20]), (5, [2, 3, 20, 21]), (6, [2, 3, 20, 21]), (8, [2, 3, 29]), (9, [2, 3, 6]), (10, [2, 3, 6, 39]), (11, [4]), (12, [2, 3, 7]), (13, [2, 3, 7, 47]), (14, [4]), (15, [4]), (7, [4]), (16, [4])]) (solo := []) Try.func138 rfl (by kernel_rfl) (by kernel_rfl) (by kernel_rfl) hn (run_gp h))

def rc_term_args : RC :=
  (.seq
   (.reg false [1] [
     ⟨some 1, none, (.box (.t 0))⟩,
     ⟨some 2, none, (.mov (.c (.sl .full [])))⟩])
   (.seq
    (.seq
     (.reg false [1, 5] [
       ⟨some 3, none, (.fptr 0 (.t 1))⟩,
       ⟨some 4, none, (.load false 1 (.t 3))⟩,
       ⟨some 5, none, (.bin .eql (.t 4) (.c (.int .i64 2)))⟩])
     (.cond (.t 5)
      (.seq
       (.reg false [2] [
         ⟨some 6, none, (.fptr 3 (.t 1))⟩,
         ⟨some 7, none, (.load false 1 (.t 6))⟩,
         ⟨some 2, none, (.mov (.t 7))⟩])
       .ret)
      .skip))
    (.seq
     (.reg false [2] [
       ⟨some 2, none, (.mov (.c (.sl .full [])))⟩])
     .ret)))
theorem of_term_args {vals : List AV} {bs : List Box} {Q : AV → List Box → Prop} (hn : vals.length ≤ 8) (h : (⟨params 0 vals, bs, bs.length⟩ : St).fo true fun s => rc_term_args.go Try.prog true s (retN [.slot 2] Q)) : AM.Sem Try.prog 130 vals bs Q :=
  Sem.of (fn := Try.f130) (keeps := [(0, [1]), (1, [1, 5]), (2, [2]), (3, [2])]) (solo := []) Try.func130 rfl (by kernel_rfl) (by kernel_rfl) (by kernel_rfl) hn (run_of h)
theorem op_term_args {vals : List AV} {bs : List Box} {Q : AV → List Box → Prop} (hn : vals.length ≤ 8) (h : (⟨params 0 vals, bs, bs.length⟩ : St).fo true fun s => rc_term_args.gp Try.prog true s (retP [.slot 2] Q)) : AM.Sem Try.prog 130 vals bs Q :=
  Sem.nrm (Sem.of (fn := Try.f130) (keeps := [(0, [1]), (1, [1, 5]), (2, [2]), (3, [2])]) (solo := []) Try.func130 rfl (by kernel_rfl) (by kernel_rfl) (by kernel_rfl) hn (run_gp h))

def rc_term_list : RC :=
  (.seq
   (.reg false [0, 1] [
     ⟨some 4, none, (.mov (.c (.int .i64 0)))⟩])
   (.seq
    (.seq
     (.reg false [0, 1, 8, 9] [
       ⟨some 7, none, (.mov (.t 0))⟩,
       ⟨some 8, none, (.len false (.t 7))⟩,
       ⟨some 9, none, (.mov (.c (.int .i64 0)))⟩])
     (.block 0
      (.loop
       (.seq
        (.reg false [0, 1, 8, 9, 10] [
          ⟨some 10, none, (.bin .lss (.t 9) (.t 8))⟩])
        (.seq
         (.cond (.t 10)
          .skip
          (.exit 0))
         (.seq
          (.block 1
           (.seq
            (.reg false [0, 1, 5, 8, 9] [
              ⟨some 11, none, (.mov (.t 9))⟩,
              ⟨some 5, none, (.mov (.t 11))⟩])
            (.seq
             (.reg true [0, 1, 6, 8, 9] [
               ⟨some 12, none, (.mov (.t 0))⟩,
               ⟨some 13, none, (.mov (.t 5))⟩,
               ⟨some 14, none, (.idx 4 (.t 12) (.t 13))⟩,
               ⟨some 15, none, (.load true 4 (.t 14))⟩,
               ⟨some 16, none, (.mov (.t 1))⟩,
               ⟨some 17, none, (.mov (.t 5))⟩,
               ⟨some 18, none, (.idx 4 (.t 16) (.t 17))⟩,
               ⟨some 19, none, (.load true 4 (.t 18))⟩,
               ⟨some 20, none, (.call (.c (.fn (.func 138) [] [])) [(.t 15), (.t 19)])⟩,
               ⟨some 6, none, (.take 20)⟩])
             (.seq
              (.reg false [0, 1, 6, 8, 9, 22] [
                ⟨some 21, none, (.mov (.t 6))⟩,
                ⟨some 22, none, (.bin .neq (.t 21) (.c (.int .i64 0)))⟩])
              (.cond (.t 22)
               (.seq
                (.reg false [4] [
                  ⟨some 23, none, (.mov (.t 6))⟩,
                  ⟨some 4, none, (.mov (.t 23))⟩])
                .ret)
               .skip)))))
          (.reg false [0, 1, 8, 9] [
            ⟨some 24, none, (.bin .add (.t 9) (.c (.int .i64 1)))⟩,
            ⟨some 9, none, (.mov (.t 24))⟩])))))))
    (.seq
     (.reg false [4] [
       ⟨some 4, none, (.mov (.c (.int .i64 0)))⟩])
     .ret)))
theorem of_term_list {vals : List AV} {bs : List Box} {Q : AV → List Box → Prop} (hn : vals.length ≤ 25) (h : (⟨params 0 vals, bs, bs.length⟩ : St).fo true fun s => rc_term_list.go Try.prog true s (retN [.slot 4] Q)) : AM.Sem Try.prog 129 vals bs Q :=
  Sem.of (fn := Try.f129) (keeps := [(0, [0, 1]), (1, [0, 1, 8, 9]), (2, [0, 1, 8, 9, 10]), (3, [0, 1, 5, 8, 9]), (4, [0, 1, 6, 8, 9]), (5, [0, 1, 6, 8, 9, 22]), (6, [4]), (7, [0, 1, 8, 9]), (8, [4])]) (solo := []) Try.func129 rfl (by kernel_rfl) (by kernel_rfl) (by kernel_rfl) hn (run_of h)
theorem op_term_list {vals : List AV} {bs : List Box} {Q : AV → List Box → Prop} (hn : vals.length ≤ 25) (h : (⟨params 0 vals, bs, bs.length⟩ : St).fo true fun s => rc_term_list.gp Try.prog true s (retP [.slot 4] Q)) : AM.Sem Try.prog 129 vals bs Q :=
  Sem.nrm (Sem.of (fn := Try.f129) (keeps := [(0, [0, 1]), (1, [0, 1, 8, 9]), (2, [0, 1, 8, 9, 10]), (3, [0, 1, 5, 8, 9]), (4, [0, 1, 6, 8, 9]), (5, [0, 1, 6, 8, 9, 22]), (6, [4]), (7, [0, 1, 8, 9]), (8, [4])]) (solo := []) Try.func129 rfl (by kernel_rfl) (by kernel_rfl) (by kernel_rfl) hn (run_gp h))

def rc_term_rank : RC :=
  (.seq
   (.reg false [0] [
     ⟨some 2, none, (.mov (.c (.int .i64 0)))⟩])
   (.seq
    (.seq
     (.reg false [3] [
       ⟨some 3, none, (.mov (.t 0))⟩])
     (.block 0
      (.seq
       (.reg false [3, 4] [
         ⟨some 5, none, (.bin .eql (.t 3) (.c (.int .i64 1)))⟩,
         ⟨some 4, none, (.mov (.t 5))⟩])
       (.cond (.t 4)
        (.seq
         (.reg false [2] [
           ⟨some 2, none, (.mov (.c (.int .i64 0)))⟩])
         .ret)
        (.seq
         (.reg false [3, 6] [
           ⟨some 7, none, (.bin .eql (.t 3) (.c (.int .i64 0)))⟩,
           ⟨some 6, none, (.mov (.t 7))⟩])
         (.cond (.t 6)
          (.seq
           (.reg false [2] [
             ⟨some 2, none, (.mov (.c (.int .i64 1)))⟩])
           .ret)
          (.seq
           (.reg false [8] [
             ⟨some 9, none, (.bin .eql (.t 3) (.c (.int .i64 2)))⟩,
             ⟨some 8, none, (.mov (.t 9))⟩])
           (.cond (.t 8)
            (.seq
             (.reg false [2] [
               ⟨some 2, none, (.mov (.c (.int .i64 2)))⟩])
             .ret)
            .skip))))))))
    (.seq
     (.reg false [2] [
       ⟨some 2, none, (.mov (.c (.int .i64 3)))⟩])
     .ret)))
theorem of_term_rank {vals : List AV} {bs : List Box} {Q : AV → List Box → Prop} (hn : vals.length ≤ 10) (h : (⟨params 0 vals, bs, bs.length⟩ : St).fo true fun s => rc_term_rank.go Try.prog true s (retN [.slot 2] Q)) : AM.Sem Try.prog 140 vals bs Q :=
  Sem.of (fn := Try.f140) (keeps := [(0, [0]), (1, [3]), (2, [3, 4]), (4, [3, 6]), (6, [8]), (7, [2]), (5, [2]), (3, [2]), (8, [2])]) (solo := []) Try.func140 rfl (by kernel_rfl) (by kernel_rfl) (by kernel_rfl) hn (run_of h)
theorem op_term_rank {vals : List AV} {bs : List Box} {Q : AV → List Box → Prop} (hn : vals.length ≤ 10) (h : (⟨params 0 vals, bs, bs.length⟩ : St).fo true fun s => rc_term_rank.gp Try.prog true s (retP [.slot 2] Q)) : AM.Sem Try.prog 140 vals bs Q :=
  Sem.nrm (Sem.of (fn := Try.f140) (keeps := [(0, [0]), (1, [3]), (2, [3, 4]), (4, [3, 6]), (6, [8]), (7, [2]), (5, [2]), (3, [2]), (8, [2])]) (solo := []) Try.func140 rfl (by kernel_rfl) (by kernel_rfl) (by kernel_rfl) hn (run_gp h))

def rc_cmp_Or_int : RC :=
  (.seq
   (.reg false [0] [
     ⟨some 2, none, (.mov (.c (.int .i64 0)))⟩])
   (.seq
    (.reg false [0, 3] [
      ⟨some 3, none, (.mov (.c (.int .i64 0)))⟩])
    (.seq
     (.seq
      (.reg false [3, 6, 7, 8] [
        ⟨some 6, none, (.mov (.t 0))⟩,
        ⟨some 7, none, (.len false (.t 6))⟩,
        ⟨some 8, none, (.mov (.c (.int .i64 0)))⟩])
      (.block 0
       (.loop
        (.seq
         (.reg false [3, 6, 7, 8, 9] [
           ⟨some 9, none, (.bin .lss (.t 8) (.t 7))⟩])
         (.seq
          (.cond (.t 9)
           .skip
           (.exit 0))
          (.seq
           (.block 1
            (.seq
             (.reg false [3, 5, 6, 7, 8] [
               ⟨some 10, none, (.idx 1 (.t 6) (.t 8))⟩,
               ⟨some 11, none, (.load false 1 (.t 10))⟩,
               ⟨some 5, none, (.mov (.t 11))⟩])
             (.seq
              (.reg false [3, 5, 6, 7, 8, 14] [
                ⟨some 12, none, (.mov (.t 5))⟩,
                ⟨some 13, none, (.mov (.t 3))⟩,
                ⟨some 14, none, (.bin .neq (.t 12) (.t 13))⟩])
              (.cond (.t 14)
               (.seq
                (.reg false [2] [
                  ⟨some 15, none, (.mov (.t 5))⟩,
                  ⟨some 2, none, (.mov (.t 15))⟩])
                .ret)
               .skip))))
           (.reg false [3, 6, 7, 8] [
             ⟨some 16, none, (.bin .add (.t 8) (.c (.int .i64 1)))⟩,
             ⟨some 8, none, (.mov (.t 16))⟩])))))))
     (.seq
      (.reg false [2] [
        ⟨some 17, none, (.mov (.t 3))⟩,
        ⟨some 2, none, (.mov (.t 17))⟩])
      .ret))))
theorem of_cmp_Or_int {vals : List AV} {bs : List Box} {Q : AV → List Box → Prop} (hn : vals.length ≤ 18) (h : (⟨params 0 vals, bs, bs.length⟩ : St).fo true fun s => rc_cmp_Or_int.go Try.prog true s (retN [.slot 2] Q)) : AM.Sem Try.prog 126 vals bs Q :=
  Sem.of (fn := Try.f126) (keeps := [(0, [0]), (1, [0, 3]), (2, [3, 6, 7, 8]), (3, [3, 6, 7, 8, 9]), (4, [3, 5, 6, 7, 8]), (5, [3, 5, 6, 7, 8, 14]), (6, [2]), (7, [3, 6, 7, 8]), (8, [2])]) (solo := []) Try.func126 rfl (by kernel_rfl) (by kernel_rfl) (by kernel_rfl) hn (run_of h)
theorem op_cmp_Or_int {vals : List AV} {bs : List Box} {Q : AV → List Box → Prop} (hn : vals.length ≤ 18) (h : (⟨params 0 vals, bs, bs.length⟩ : St).fo true fun s => rc_cmp_Or_int.gp Try.prog true s (retP [.slot 2] Q)) : AM.Sem Try.prog 126 vals bs Q :=
  Sem.nrm (Sem.of (fn := Try.f126) (keeps := [(0, [0]), (1, [0, 3]), (2, [3, 6, 7, 8]), (3, [3, 6, 7, 8, 9]), (4, [3, 5, 6, 7, 8]), (5, [3, 5, 6, 7, 8, 14]), (6, [2]), (7, [3, 6, 7, 8]), (8, [2])]) (solo := []) Try.func126 rfl (by kernel_rfl) (by kernel_rfl) (by kernel_rfl) hn (run_gp h))

def rc_cmp_Compare_string : RC :=
  (.seq
   (.reg false [0, 1] [
     ⟨some 4, none, (.mov (.c (.int .i64 0)))⟩])
   (.seq
    (.reg false [0, 1, 5] [
      ⟨some 7, none, (.mov (.t 0))⟩,
      ⟨some 8, none, (.call (.c (.fn (.func 137) [] [])) [(.t 7)])⟩,
      ⟨some 5, none, (.mov (.t 8))⟩])
    (.seq
     (.reg false [0, 1, 5, 6] [
       ⟨some 9, none, (.mov (.t 1))⟩,
       ⟨some 10, none, (.call (.c (.fn (.func 137) [] [])) [(.t 9)])⟩,
       ⟨some 6, none, (.mov (.t 10))⟩])
     (.seq
      (.seq
       (.reg false [0, 1, 6, 11] [
         ⟨some 11, none, (.mov (.t 5))⟩])
       (.cond (.t 11)
        (.seq
         (.seq
          (.reg false [12] [
            ⟨some 12, none, (.mov (.t 6))⟩])
          (.cond (.t 12)
           (.seq
            (.reg false [4] [
              ⟨some 4, none, (.mov (.c (.int .i64 0)))⟩])
            .ret)
           .skip))
         (.seq
          (.reg false [4] [
            ⟨some 4, none, (.mov (.c (.int .i64 (-1))))⟩])
          .ret))
        .skip))
      (.seq
       (.seq
        (.reg false [0, 1, 13] [
          ⟨some 13, none, (.mov (.t 6))⟩])
        (.cond (.t 13)
         (.seq
          (.reg false [4] [
            ⟨some 4, none, (.mov (.c (.int .i64 1)))⟩])
          .ret)
         .skip))
       (.seq
        (.seq
         (.reg false [0, 1, 16] [
           ⟨some 14, none, (.mov (.t 0))⟩,
           ⟨some 15, none, (.mov (.t 1))⟩,
           ⟨some 16, none, (.bin .lss (.t 14) (.t 15))⟩])
         (.cond (.t 16)
          (.seq
           (.reg false [4] [
             ⟨some 4, none, (.mov (.c (.int .i64 (-1))))⟩])
           .ret)
          .skip))
        (.seq
         (.seq
          (.reg false [19] [
            ⟨some 17, none, (.mov (.t 0))⟩,
            ⟨some 18, none, (.mov (.t 1))⟩,
            ⟨some 19, none, (.bin .gtr (.t 17) (.t 18))⟩])
          (.cond (.t 19)
           (.seq
            (.reg false [4] [
              ⟨some 4, none, (.mov (.c (.int .i64 1)))⟩])
            .ret)
           .skip))
         (.seq
          (.reg false [4] [
            ⟨some 4, none, (.mov (.c (.int .i64 0)))⟩])
          .ret))))))))
theorem of_cmp_Compare_string {vals : List AV} {bs : List Box} {Q : AV → List Box → Prop} (hn : vals.length ≤ 20) (h : (⟨params 0 vals, bs, bs.length⟩ : St).fo true fun s => rc_cmp_Compare_string.go Try.prog true s (retN [.slot 4] Q)) : AM.Sem Try.prog 127 vals bs Q :=
  Sem.of (fn := Try.f127) (keeps := [(0, [0, 1]), (1, [0, 1, 5]), (2, [0, 1, 5, 6]), (3, [0, 1, 6, 11]), (4, [12]), (5, [4]), (6, [4]), (7, [0, 1, 13]), (8, [4]), (9, [0, 1, 16]), (10, [4]), (11, [19]), (12, [4]), (13, [4])]) (solo := []) Try.func127 rfl (by kernel_rfl) (by kernel_rfl) (by kernel_rfl) hn (run_of h)
theorem op_cmp_Compare_string {vals : List AV} {bs : List Box} {Q : AV → List Box → Prop} (hn : vals.length ≤ 20) (h : (⟨params 0 vals, bs, bs.length⟩ : St).fo true fun s => rc_cmp_Compare_string.gp Try.prog true s (retP [.slot 4] Q)) : AM.Sem Try.prog 127 vals bs Q :=
  Sem.nrm (Sem.of (fn := Try.f127) (keeps := [(0, [0, 1]), (1, [0, 1, 5]), (2, [0, 1, 5, 6]), (3, [0, 1, 6, 11]), (4, [12]), (5, [4]), (6, [4]), (7, [0, 1, 13]), (8, [4]), (9, [0, 1, 16]), (10, [4]), (11, [19]), (12, [4]), (13, [4])]) (solo := []) Try.func127 rfl (by kernel_rfl) (by kernel_rfl) (by kernel_rfl) hn (run_gp h))

def rc_cmp_Compare_int : RC :=
  (.seq
   (.reg false [0, 1] [
     ⟨some 4, none, (.mov (.c (.int .i64 0)))⟩])
   (.seq
    (.reg false [0, 1, 5] [
      ⟨some 7, none, (.mov (.t 0))⟩,
      ⟨some 8, none, (.call (.c (.fn (.func 136) [] [])) [(.t 7)])⟩,
      ⟨some 5, none, (.mov (.t 8))⟩])
    (.seq
     (.reg false [0, 1, 5, 6] [
       ⟨some 9, none, (.mov (.t 1))⟩,
       ⟨some 10, none, (.call (.c (.fn (.func 136) [] [])) [(.t 9)])⟩,
       ⟨some 6, none, (.mov (.t 10))⟩])
     (.seq
      (.seq
       (.reg false [0, 1, 6, 11] [
         ⟨some 11, none, (.mov (.t 5))⟩])
       (.cond (.t 11)
        (.seq
         (.seq
          (.reg false [12] [
            ⟨some 12, none, (.mov (.t 6))⟩])
          (.cond (.t 12)
           (.seq
            (.reg false [4] [
              ⟨some 4, none, (.mov (.c (.int .i64 0)))⟩])
            .ret)
           .skip))
         (.seq
          (.reg false [4] [
            ⟨some 4, none, (.mov (.c (.int .i64 (-1))))⟩])
          .ret))
        .skip))
      (.seq
       (.seq
        (.reg false [0, 1, 13] [
          ⟨some 13, none, (.mov (.t 6))⟩])
        (.cond (.t 13)
         (.seq
          (.reg false [4] [
            ⟨some 4, none, (.mov (.c (.int .i64 1)))⟩])
          .ret)
         .skip))
       (.seq
        (.seq
         (.reg false [0, 1, 16] [
           ⟨some 14, none, (.mov (.t 0))⟩,
           ⟨some 15, none, (.mov (.t 1))⟩,
           ⟨some 16, none, (.bin .lss (.t 14) (.t 15))⟩])
         (.cond (.t 16)
          (.seq
           (.reg false [4] [
             ⟨some 4, none, (.mov (.c (.int .i64 (-1))))⟩])
           .ret)
          .skip))
        (.seq
         (.seq
          (.reg false [19] [
            ⟨some 17, none, (.mov (.t 0))⟩,
            ⟨some 18, none, (.mov (.t 1))⟩,
            ⟨some 19, none, (.bin .gtr (.t 17) (.t 18))⟩])
          (.cond (.t 19)
           (.seq
            (.reg false [4] [
              ⟨some 4, none, (.mov (.c (.int .i64 1)))⟩])
            .ret)
           .skip))
         (.seq
          (.reg false [4] [
            ⟨some 4, none, (.mov (.c (.int .i64 0)))⟩])
          .ret))))))))
theorem of_cmp_Compare_int {vals : List AV} {bs : List Box} {Q : AV → List Box → Prop} (hn : vals.length ≤ 20) (h : (⟨params 0 vals, bs, bs.length⟩ : St).fo true fun s => rc_cmp_Compare_int.go Try.prog true s (retN [.slot 4] Q)) : AM.Sem Try.prog 128 vals bs Q :=
  Sem.of (fn := Try.f128) (keeps := [(0, [0, 1]), (1, [0, 1, 5]), (2, [0, 1, 5, 6]), (3, [0, 1, 6, 11]), (4, [12]), (5, [4]), (6, [4]), (7, [0, 1, 13]), (8, [4]), (9, [0, 1, 16]), (10, [4]), (11, [19]), (12, [4]), (13, [4])]) (solo := []) Try.func128 rfl (by kernel_rfl) (by kernel_rfl) (by kernel_rfl) hn (run_of h)
theorem op_cmp_Compare_int {vals : List AV} {bs : List Box} {Q : AV → List Box → Prop} (hn : vals.length ≤ 20) (h : (⟨params 0 vals, bs, bs.length⟩ : St).fo true fun s => rc_cmp_Compare_int.gp Try.prog true s (retP [.slot 4] Q)) : AM.Sem Try.prog 128 vals bs Q :=
  Sem.nrm (Sem.of (fn := Try.f128) (keeps := [(0, [0, 1]), (1, [0, 1, 5]), (2, [0, 1, 5, 6]), (3, [0, 1, 6, 11]), (4, [12]), (5, [4]), (6, [4]), (7, [0, 1, 13]), (8, [4]), (9, [0, 1, 16]), (10, [4]), (11, [19]), (12, [4]), (13, [4])]) (solo := []) Try.func128 rfl (by kernel_rfl) (by kernel_rfl) (by kernel_rfl) hn (run_gp h))

def rc_cmp_isNaN_int : RC :=
  (.seq
   (.reg false [0] [
     ⟨some 2, none, (.mov (.c (.bool false)))⟩])
   (.seq
    (.reg false [2] [
      ⟨some 3, none, (.mov (.t 0))⟩,
      ⟨some 4, none, (.mov (.t 0))⟩,
      ⟨some 5, none, (.bin .neq (.t 3) (.t 4))⟩,
      ⟨some 2, none, (.mov (.t 5))⟩])
    .ret))
theorem of_cmp_isNaN_int {vals : List AV} {bs : List Box} {Q : AV → List Box → Prop} (hn : vals.length ≤ 6) (h : (⟨params 0 vals, bs, bs.length⟩ : St).fo true fun s => rc_cmp_isNaN_int.go Try.prog true s (retN [.slot 2] Q)) : AM.Sem Try.prog 136 vals bs Q :=
  Sem.of (fn := Try.f136) (keeps := [(0, [0]), (1, [2])]) (solo := []) Try.func136 rfl (by kernel_rfl) (by kernel_rfl) (by kernel_rfl) hn (run_of h)
theorem op_cmp_isNaN_int {vals : List AV} {bs : List Box} {Q : AV → List Box → Prop} (hn : vals.length ≤ 6) (h : (⟨params 0 vals, bs, bs.length⟩ : St).fo true fun s => rc_cmp_isNaN_int.gp Try.prog true s (retP [.slot 2] Q)) : AM.Sem Try.prog 136 vals bs Q :=
  Sem.nrm (Sem.of (fn := Try.f136) (keeps := [(0, [0]), (1, [2])]) (solo := []) Try.func136 rfl (by kernel_rfl) (by kernel_rfl) (by kernel_rfl) hn (run_gp h))

def rc_cmp_isNaN_string : RC :=
  (.seq
   (.reg false [0] [
     ⟨some 2, none, (.mov (.c (.bool false)))⟩])
   (.seq
    (.reg false [2] [
      ⟨some 3, none, (.mov (.t 0))⟩,
      ⟨some 4, none, (.mov (.t 0))⟩,
      ⟨some 5, none, (.bin .neq (.t 3) (.t 4))⟩,
      ⟨some 2, none, (.mov (.t 5))⟩])
    .ret))
theorem of_cmp_isNaN_string {vals : List AV} {bs : List Box} {Q : AV → List Box → Prop} (hn : vals.length ≤ 6) (h : (⟨params 0 vals, bs, bs.length⟩ : St).fo true fun s => rc_cmp_isNaN_string.go Try.prog true s (retN [.slot 2] Q)) : AM.Sem Try.prog 137 vals bs Q :=
  Sem.of (fn := Try.f137) (keeps := [(0, [0]), (1, [2])]) (solo := []) Try.func137 rfl (by kernel_rfl) (by kernel_rfl) (by kernel_rfl) hn (run_of h)
theorem op_cmp_isNaN_string {vals : List AV} {bs : List Box} {Q : AV → List Box → Prop} (hn : vals.length ≤ 6) (h : (⟨params 0 vals, bs, bs.length⟩ : St).fo true fun s => rc_cmp_isNaN_string.gp Try.prog true s (retP [.slot 2] Q)) : AM.Sem Try.prog 137 vals bs Q :=
  Sem.nrm (Sem.of (fn := Try.f137) (keeps := [(0, [0]), (1, [2])]) (solo := []) Try.func137 rfl (by kernel_rfl) (by kernel_rfl) (by kernel_rfl) hn (run_gp h))

def rc_constraintref49_Right : RC :=
  (.seq
   (.reg false [0] [
     ⟨some 2, none, (.mov (.c (.bool false)))⟩])
   (.seq
    (.seq
     (.reg false [0, 3] [
       ⟨some 3, none, (.mov (.c (.int .i64 0)))⟩])
     (.block 0
      (.loop
       (.seq
        (.seq
         (.reg false [0, 3, 7] [
           ⟨some 4, none, (.mov (.t 3))⟩,
           ⟨some 5, none, (.mov (.t 0))⟩,
           ⟨some 6, none, (.len false (.t 5))⟩,
           ⟨some 7, none, (.bin .lss (.t 4) (.t 6))⟩])
         (.cond (.t 7)
          .skip
          (.exit 0)))
        (.seq
         (.block 1
          (.seq
           (.reg true [0, 3, 37] [
             ⟨some 10, none, (.mov (.t 0))⟩,
             ⟨some 11, none, (.mov (.t 3))⟩,
             ⟨some 12, none, (.idx 1 (.t 10) (.t 11))⟩,
             ⟨some 13, none, (.load false 1 (.t 12))⟩,
             ⟨some 14, none, (.bin .lss (.t 13) (.c (.int .i64 1)))⟩,
             ⟨some 15, none, (.mov (.t 14))⟩,
             ⟨some 16, some (15, false), (.mov (.t 0))⟩,
             ⟨some 17, some (15, false), (.mov (.t 3))⟩,
             ⟨some 18, some (15, false), (.idx 1 (.t 16) (.t 17))⟩,
             ⟨some 19, some (15, false), (.load false 1 (.t 18))⟩,
             ⟨some 20, some (15, false), (.bin .gtr (.t 19) (.c (.int .i64 64)))⟩,
             ⟨some 21, none, (.pick (.t 15) (.c (.bool true)) (.t 20))⟩,
             ⟨some 22, none, (.mov (.t 21))⟩,
             ⟨some 23, some (22, false), (.mov (.t 3))⟩,
             ⟨some 24, some (22, false), (.bin .gtr (.t 23) (.c (.int .i64 0)))⟩,
             ⟨some 25, some (22, false), (.mov (.t 24))⟩,
             ⟨some 26, some (25, true), (.mov (.t 0))⟩,
             ⟨some 27, some (25, true), (.mov (.t 3))⟩,
             ⟨some 28, some (25, true), (.idx 1 (.t 26) (.t 27))⟩,
             ⟨some 29, some (25, true), (.load false 1 (.t 28))⟩,
             ⟨some 30, some (25, true), (.mov (.t 0))⟩,
             ⟨some 31, some (25, true), (.mov (.t 3))⟩,
             ⟨some 32, some (25, true), (.bin .sub (.t 31) (.c (.int .i64 1)))⟩,
             ⟨some 33, some (25, true), (.idx 1 (.t 30) (.t 32))⟩,
             ⟨some 34, some (25, true), (.load false 1 (.t 33))⟩,
             ⟨some 35, some (25, true), (.bin .leq (.t 29) (.t 34))⟩,
             ⟨some 36, some (22, false), (.pick (.t 25) (.t 35) (.c (.bool false)))⟩,
             ⟨some 37, none, (.pick (.t 22) (.c (.bool true)) (.t 36))⟩])
           (.cond (.t 37)
            (.seq
             (.reg false [2] [
               ⟨some 2, none, (.mov (.c (.bool false)))⟩])
             .ret)
            .skip)))
         (.reg false [0, 3] [
           ⟨some 8, none, (.mov (.t 3))⟩,
           ⟨some 9, none, (.bin .add (.t 8) (.c (.int .i64 1)))⟩,
           ⟨some 3, none, (.mov (.t 9))⟩]))))))
    (.seq
     (.reg false [2] [
       ⟨some 2, none, (.mov (.c (.bool true)))⟩])
     .ret)))
theorem of_constraintref49_Right {vals : List AV} {bs : List Box} {Q : AV → List Box → Prop} (hn : vals.length ≤ 38) (h : (⟨params 0 vals, bs, bs.length⟩ : St).fo true fun s => rc_constraintref49_Right.go Try.prog true s (retN [.slot 2] Q)) : AM.Sem Try.prog 40 vals bs Q :=
  Sem.of (fn := Try.f40) (keeps := [(0, [0]), (1, [0, 3]), (2, [0, 3, 7]), (4, [0, 3, 37]), (5, [2]), (3, [0, 3]), (6, [2])]) (solo := []) Try.func40 rfl (by kernel_rfl) (by kernel_rfl) (by kernel_rfl) hn (run_of h)
theorem op_constraintref49_Right {vals : List AV} {bs : List Box} {Q : AV → List Box → Prop} (hn : vals.length ≤ 38) (h : (⟨params 0 vals, bs, bs.length⟩ : St).fo true fun s => rc_constraintref49_Right.gp Try.prog true s (retP [.slot 2] Q)) : AM.Sem Try.prog 40 vals bs Q :=
  Sem.nrm (Sem.of (fn := Try.f40) (keeps := [(0, [0]), (1, [0, 3]), (2, [0, 3, 7]), (4, [0, 3, 37]), (5, [2]), (3, [0, 3]), (6, [2])]) (solo := []) Try.func40 rfl (by kernel_rfl) (by kernel_rfl) (by kernel_rfl) hn (run_gp h))

def rc_constraintref49_into : RC :=
  (.seq
   (.reg false [0, 1] [
     ⟨some 4, none, (.mov (.c (.sl .full [])))⟩])
   (.seq
    (.reg false [0, 1, 5] [
      ⟨some 5, none, (.mov (.c (.int .i64 0)))⟩])
    (.seq
     (.block 0
      (.loop
       (.seq
        (.seq
         (.reg false [0, 1, 5, 18] [
           ⟨some 7, none, (.mov (.t 5))⟩,
           ⟨some 8, none, (.mov (.t 0))⟩,
           ⟨some 9, none, (.len false (.t 8))⟩,
           ⟨some 10, none, (.bin .lss (.t 7) (.t 9))⟩,
           ⟨some 11, none, (.mov (.t 10))⟩,
           ⟨some 12, some (11, true), (.mov (.t 0))⟩,
           ⟨some 13, some (11, true), (.mov (.t 5))⟩,
           ⟨some 14, some (11, true), (.idx 1 (.t 12) (.t 13))⟩,
           ⟨some 15, some (11, true), (.load false 1 (.t 14))⟩,
           ⟨some 16, some (11, true), (.mov (.t 1))⟩,
           ⟨some 17, some (11, true), (.bin .lss (.t 15) (.t 16))⟩,
           ⟨some 18, none, (.pick (.t 11) (.t 17) (.c (.bool false)))⟩])
         (.cond (.t 18)
          .skip
          (.exit 0)))
        (.block 1
         (.reg false [0, 1, 5] [
           ⟨some 19, none, (.mov (.t 5))⟩,
           ⟨some 20, none, (.bin .add (.t 19) (.c (.int .i64 1)))⟩,
           ⟨some 5, none, (.mov (.t 20))⟩])))))
     (.seq
      (.seq
       (.reg false [0, 1, 5, 32] [
         ⟨some 21, none, (.mov (.t 5))⟩,
         ⟨some 22, none, (.mov (.t 0))⟩,
         ⟨some 23, none, (.len false (.t 22))⟩,
         ⟨some 24, none, (.bin .lss (.t 21) (.t 23))⟩,
         ⟨some 25, none, (.mov (.t 24))⟩,
         ⟨some 26, some (25, true), (.mov (.t 0))⟩,
         ⟨some 27, some (25, true), (.mov (.t 5))⟩,
         ⟨some 28, some (25, true), (.idx 1 (.t 26) (.t 27))⟩,
         ⟨some 29, some (25, true), (.load false 1 (.t 28))⟩,
         ⟨some 30, some (25, true), (.mov (.t 1))⟩,
         ⟨some 31, some (25, true), (.bin .eql (.t 29) (.t 30))⟩,
         ⟨some 32, none, (.pick (.t 25) (.t 31) (.c (.bool false)))⟩])
       (.cond (.t 32)
        (.seq
         (.reg false [4] [
           ⟨some 33, none, (.mov (.t 0))⟩,
           ⟨some 4, none, (.mov (.t 33))⟩])
         .ret)
        .skip))
      (.seq
       (.reg false [0, 1, 5, 6] [
         ⟨some 34, none, (.bslice 1 [])⟩,
         ⟨some 35, none, (.mov (.t 0))⟩,
         ⟨some 36, none, (.mov (.t 5))⟩,
         ⟨some 37, none, (.slc 1 (.t 35) none (some (.t 36)) none)⟩,
         ⟨some 38, none, (.append 1 (.t 34) (.t 37))⟩,
         ⟨some 6, none, (.mov (.t 38))⟩])
       (.seq
        (.reg false [0, 5, 6] [
          ⟨some 39, none, (.mov (.t 6))⟩,
          ⟨some 40, none, (.mov (.t 1))⟩,
          ⟨some 41, none, (.bslice 1 [(.t 40)])⟩,
          ⟨some 42, none, (.append 1 (.t 39) (.t 41))⟩,
          ⟨some 6, none, (.mov (.t 42))⟩])
        (.seq
         (.reg false [6] [
           ⟨some 43, none, (.mov (.t 6))⟩,
           ⟨some 44, none, (.mov (.t 0))⟩,
           ⟨some 45, none, (.mov (.t 5))⟩,
           ⟨some 46, none, (.slc 1 (.t 44) (some (.t 45)) none none)⟩,
           ⟨some 47, none, (.append 1 (.t 43) (.t 46))⟩,
           ⟨some 6, none, (.mov (.t 47))⟩])
         (.seq
          (.reg false [4] [
            ⟨some 48, none, (.mov (.t 6))⟩,
            ⟨some 4, none, (.mov (.t 48))⟩])
          .ret))))))))
theorem of_constraintref49_into {vals : List AV} {bs : List Box} {Q : AV → List Box → Prop} (hn : vals.length ≤ 49) (h : (⟨params 0 vals, bs, bs.length⟩ : St).fo true fun s => rc_constraintref49_into.go Try.prog true s (retN [.slot 4] Q)) : AM.Sem Try.prog 82 vals bs Q :=
  Sem.of (fn := Try.f82) (keeps := [(0, [0, 1]), (1, [0, 1, 5]), (2, [0, 1, 5, 18]), (3, [0, 1, 5]), (4, [0, 1, 5, 32]), (5, [4]), (6, [0, 1, 5, 6]), (7, [0, 5, 6]), (8, [6]), (9, [4])]) (solo := []) Try.func82 rfl (by kernel_rfl) (by kernel_rfl) (by kernel_rfl) hn (run_of h)
theorem op_constraintref49_into {vals : List AV} {bs : List Box} {Q : AV → List Box → Prop} (hn : vals.length ≤ 49) (h : (⟨params 0 vals, bs, bs.length⟩ : St).fo true fun s => rc_constraintref49_into.gp Try.prog true s (retP [.slot 4] Q)) : AM.Sem Try.prog 82 vals bs Q :=
  Sem.nrm (Sem.of (fn := Try.f82) (keeps := [(0, [0, 1]), (1, [0, 1, 5]), (2, [0, 1, 5, 18]), (3, [0, 1, 5]), (4, [0, 1, 5, 32]), (5, [4]), (6, [0, 1, 5, 6]), (7, [0, 5, 6]), (8, [6]), (9, [4])]) (solo := []) Try.func82 rfl (by kernel_rfl) (by kernel_rfl) (by kernel_rfl) hn (run_gp h))

def rc_constraintref49_Union : RC :=
  (.seq
   (.reg false [0, 1] [
     ⟨some 4, none, (.mov (.c (.sl .full [])))⟩])
   (.seq
    (.reg false [0, 1, 5] [
      ⟨some 5, none, (.mov (.c (.sl .full [])))⟩])
    (.seq
     (.seq
      (.reg false [0, 1, 5, 6] [
        ⟨some 6, none, (.mov (.c (.int .i64 0)))⟩])
      (.block 0
       (.loop
        (.seq
         (.seq
          (.reg false [0, 1, 5, 6, 11] [
            ⟨some 8, none, (.mov (.t 6))⟩,
            ⟨some 9, none, (.mov (.t 0))⟩,
            ⟨some 10, none, (.len false (.t 9))⟩,
            ⟨some 11, none, (.bin .lss (.t 8) (.t 10))⟩])
          (.cond (.t 11)
           .skip
           (.exit 0)))
         (.seq
          (.block 1
           (.reg false [0, 1, 5, 6] [
             ⟨some 14, none, (.mov (.t 5))⟩,
             ⟨some 15, none, (.mov (.t 0))⟩,
             ⟨some 16, none, (.mov (.t 6))⟩,
             ⟨some 17, none, (.idx 1 (.t 15) (.t 16))⟩,
             ⟨some 18, none, (.load false 1 (.t 17))⟩,
             ⟨some 19, none, (.call (.c (.fn (.func 82) [] [])) [(.t 14), (.t 18)])⟩,
             ⟨some 5, none, (.mov (.t 19))⟩]))
          (.reg false [0, 1, 5, 6] [
            ⟨some 12, none, (.mov (.t 6))⟩,
            ⟨some 13, none, (.bin .add (.t 12) (.c (.int .i64 1)))⟩,
            ⟨some 6, none, (.mov (.t 13))⟩]))))))
     (.seq
      (.seq
       (.reg false [1, 5, 7] [
         ⟨some 7, none, (.mov (.c (.int .i64 0)))⟩])
       (.block 2
        (.loop
         (.seq
          (.seq
           (.reg false [1, 5, 7, 23] [
             ⟨some 20, none, (.mov (.t 7))⟩,
             ⟨some 21, none, (.mov (.t 1))⟩,
             ⟨some 22, none, (.len false (.t 21))⟩,
             ⟨some 23, none, (.bin .lss (.t 20) (.t 22))⟩])
           (.cond (.t 23)
            .skip
            (.exit 2)))
          (.seq
           (.block 3
            (.reg false [1, 5, 7] [
              ⟨some 26, none, (.mov (.t 5))⟩,
              ⟨some 27, none, (.mov (.t 1))⟩,
              ⟨some 28, none, (.mov (.t 7))⟩,
              ⟨some 29, none, (.idx 1 (.t 27) (.t 28))⟩,
              ⟨some 30, none, (.load false 1 (.t 29))⟩,
              ⟨some 31, none, (.call (.c (.fn (.func 82) [] [])) [(.t 26), (.t 30)])⟩,
              ⟨some 5, none, (.mov (.t 31))⟩]))
           (.reg false [1, 5, 7] [
             ⟨some 24, none, (.mov (.t 7))⟩,
             ⟨some 25, none, (.bin .add (.t 24) (.c (.int .i64 1)))⟩,
             ⟨some 7, none, (.mov (.t 25))⟩]))))))
      (.seq
       (.reg false [4] [
         ⟨some 32, none, (.mov (.t 5))⟩,
         ⟨some 4, none, (.mov (.t 32))⟩])
       .ret)))))
theorem of_constraintref49_Union {vals : List AV} {bs : List Box} {Q : AV → List Box → Prop} (hn : vals.length ≤ 33) (h : (⟨params 0 vals, bs, bs.length⟩ : St).fo true fun s => rc_constraintref49_Union.go Try.prog true s (retN [.slot 4] Q)) : AM.Sem Try.prog 42 vals bs Q :=
  Sem.of (fn := Try.f42) (keeps := [(0, [0, 1]), (1, [0, 1, 5]), (2, [0, 1, 5, 6]), (3, [0, 1, 5, 6, 11]), (5, [0, 1, 5, 6]), (4, [0, 1, 5, 6]), (6, [1, 5, 7]), (7, [1, 5, 7, 23]), (9, [1, 5, 7]), (8, [1, 5, 7]), (10, [4])]) (solo := []) Try.func42 rfl (by kernel_rfl) (by kernel_rfl) (by kernel_rfl) hn (run_of h)
theorem op_constraintref49_Union {vals : List AV} {bs : List Box} {Q : AV → List Box → Prop} (hn : vals.length ≤ 33) (h : (⟨params 0 vals, bs, bs.length⟩ : St).fo true fun s => rc_constraintref49_Union.gp Try.prog true s (retP [.slot 4] Q)) : AM.Sem Try.prog 42 vals bs Q :=
  Sem.nrm (Sem.of (fn := Try.f42) (keeps := [(0, [0, 1]), (1, [0, 1, 5]), (2, [0, 1, 5, 6]), (3, [0, 1, 5, 6, 11]), (5, [0, 1, 5, 6]), (4, [0, 1, 5, 6]), (6, [1, 5, 7]), (7, [1, 5, 7, 23]), (9, [1, 5, 7]), (8, [1, 5, 7]), (10, [4])]) (solo := []) Try.func42 rfl (by kernel_rfl) (by kernel_rfl) (by kernel_rfl) hn (run_gp h))

def rc_constraintref49_Has : RC :=
  (.seq
   (.reg false [0, 1] [
     ⟨some 4, none, (.mov (.c (.bool false)))⟩])
   (.seq
    (.seq
     (.reg false [0, 1, 5] [
       ⟨some 5, none, (.mov (.c (.int .i64 0)))⟩])
     (.block 0
      (.loop
       (.seq
        (.seq
         (.reg false [0, 1, 5, 9] [
           ⟨some 6, none, (.mov (.t 5))⟩,
           ⟨some 7, none, (.mov (.t 0))⟩,
           ⟨some 8, none, (.len false (.t 7))⟩,
           ⟨some 9, none, (.bin .lss (.t 6) (.t 8))⟩])
         (.cond (.t 9)
          .skip
          (.exit 0)))
        (.seq
         (.block 1
          (.seq
           (.reg false [0, 1, 5, 17] [
             ⟨some 12, none, (.mov (.t 0))⟩,
             ⟨some 13, none, (.mov (.t 5))⟩,
             ⟨some 14, none, (.idx 1 (.t 12) (.t 13))⟩,
             ⟨some 15, none, (.load false 1 (.t 14))⟩,
             ⟨some 16, none, (.mov (.t 1))⟩,
             ⟨some 17, none, (.bin .eql (.t 15) (.t 16))⟩])
           (.cond (.t 17)
            (.seq
             (.reg false [4] [
               ⟨some 4, none, (.mov (.c (.bool true)))⟩])
             .ret)
            .skip)))
         (.reg false [0, 1, 5] [
           ⟨some 10, none, (.mov (.t 5))⟩,
           ⟨some 11, none, (.bin .add (.t 10) (.c (.int .i64 1)))⟩,
           ⟨some 5, none, (.mov (.t 11))⟩]))))))
    (.seq
     (.reg false [4] [
       ⟨some 4, none, (.mov (.c (.bool false)))⟩])
     .ret)))
theorem of_constraintref49_Has {vals : List AV} {bs : List Box} {Q : AV → List Box → Prop} (hn : vals.length ≤ 18) (h : (⟨params 0 vals, bs, bs.length⟩ : St).fo true fun s => rc_constraintref49_Has.go Try.prog true s (retN [.slot 4] Q)) : AM.Sem Try.prog 44 vals bs Q :=
  Sem.of (fn := Try.f44) (keeps := [(0, [0, 1]), (1, [0, 1, 5]), (2, [0, 1, 5, 9]), (4, [0, 1, 5, 17]), (5, [4]), (3, [0, 1, 5]), (6, [4])]) (solo := []) Try.func44 rfl (by kernel_rfl) (by kernel_rfl) (by kernel_rfl) hn (run_of h)
theorem op_constraintref49_Has {vals : List AV} {bs : List Box} {Q : AV → List Box → Prop} (hn : vals.length ≤ 18) (h : (⟨params 0 vals, bs, bs.length⟩ : St).fo true fun s => rc_constraintref49_Has.gp Try.prog true s (retP [.slot 4] Q)) : AM.Sem Try.prog 44 vals bs Q :=
  Sem.nrm (Sem.of (fn := Try.f44) (keeps := [(0, [0, 1]), (1, [0, 1, 5]), (2, [0, 1, 5, 9]), (4, [0, 1, 5, 17]), (5, [4]), (3, [0, 1, 5]), (6, [4])]) (solo := []) Try.func44 rfl (by kernel_rfl) (by kernel_rfl) (by kernel_rfl) hn (run_gp h))

def rc_constraintref49_Of : RC :=
  (.seq
   (.reg false [0] [
     ⟨some 2, none, (.mov (.c (.sl .full [])))⟩])
   (.seq
    (.reg false [0, 3] [
      ⟨some 3, none, (.mov (.c (.sl .full [])))⟩])
    (.seq
     (.seq
      (.reg false [0, 3, 4] [
        ⟨some 4, none, (.mov (.c (.int .i64 0)))⟩])
      (.block 0
       (.loop
        (.seq
         (.seq
          (.reg false [0, 3, 4, 8] [
            ⟨some 5, none, (.mov (.t 4))⟩,
            ⟨some 6, none, (.mov (.t 0))⟩,
            ⟨some 7, none, (.len false (.t 6))⟩,
            ⟨some 8, none, (.bin .lss (.t 5) (.t 7))⟩])
          (.cond (.t 8)
           .skip
           (.exit 0)))
         (.seq
          (.block 1
           (.reg false [0, 3, 4] [
             ⟨some 11, none, (.mov (.t 3))⟩,
             ⟨some 12, none, (.mov (.t 0))⟩,
             ⟨some 13, none, (.mov (.t 4))⟩,
             ⟨some 14, none, (.idx 4 (.t 12) (.t 13))⟩,
             ⟨some 15, none, (.fptr 3 (.t 14))⟩,
             ⟨some 16, none, (.load false 1 (.t 15))⟩,
             ⟨some 17, none, (.call (.c (.fn (.func 42) [] [])) [(.t 11), (.t 16)])⟩,
             ⟨some 3, none, (.mov (.t 17))⟩]))
          (.reg false [0, 3, 4] [
            ⟨some 9, none, (.mov (.t 4))⟩,
            ⟨some 10, none, (.bin .add (.t 9) (.c (.int .i64 1)))⟩,
            ⟨some 4, none, (.mov (.t 10))⟩]))))))
     (.seq
      (.reg false [2] [
        ⟨some 18, none, (.mov (.t 3))⟩,
        ⟨some 2, none, (.mov (.t 18))⟩])
      .ret))))
theorem of_constraintref49_Of {vals : List AV} {bs : List Box} {Q : AV → List Box → Prop} (hn : vals.length ≤ 19) (h : (⟨params 0 vals, bs, bs.length⟩ : St).fo true fun s => rc_constraintref49_Of.go Try.prog true s (retN [.slot 2] Q)) : AM.Sem Try.prog 51 vals bs Q :=
  Sem.of (fn := Try.f51) (keeps := [(0, [0]), (1, [0, 3]), (2, [0, 3, 4]), (3, [0, 3, 4, 8]), (5, [0, 3, 4]), (4, [0, 3, 4]), (6, [2])]) (solo := []) Try.func51 rfl (by kernel_rfl) (by kernel_rfl) (by kernel_rfl) hn (run_of h)
theorem op_constraintref49_Of {vals : List AV} {bs : List Box} {Q : AV → List Box → Prop} (hn : vals.length ≤ 19) (h : (⟨params 0 vals, bs, bs.length⟩ : St).fo true fun s => rc_constraintref49_Of.gp Try.prog true s (retP [.slot 2] Q)) : AM.Sem Try.prog 51 vals bs Q :=
  Sem.nrm (Sem.of (fn := Try.f51) (keeps := [(0, [0]), (1, [0, 3]), (2, [0, 3, 4]), (3, [0, 3, 4, 8]), (5, [0, 3, 4]), (4, [0, 3, 4]), (6, [2])]) (solo := []) Try.func51 rfl (by kernel_rfl) (by kernel_rfl) (by kernel_rfl) hn (run_gp h))

def rc_constraintref49_Find : RC :=
  (.seq
   (.reg false [0, 1, 4] [
     ⟨some 4, none, (.box (.c (.agg [(.int .i64 0), (.str ⟨⟨[]⟩⟩), (.sl .full []), (.sl .full [])])))⟩,
     ⟨some 5, none, (.mov (.c (.bool false)))⟩])
   (.seq
    (.seq
     (.reg false [0, 1, 4, 6] [
       ⟨some 6, none, (.mov (.c (.int .i64 0)))⟩])
     (.block 0
      (.loop
       (.seq
        (.seq
         (.reg false [0, 1, 4, 6, 10] [
           ⟨some 7, none, (.mov (.t 6))⟩,
           ⟨some 8, none, (.mov (.t 0))⟩,
           ⟨some 9, none, (.len false (.t 8))⟩,
           ⟨some 10, none, (.bin .lss (.t 7) (.t 9))⟩])
         (.cond (.t 10)
          .skip
          (.exit 0)))
        (.seq
         (.block 1
          (.seq
           (.reg false [0, 1, 4, 6, 19] [
             ⟨some 13, none, (.mov (.t 0))⟩,
             ⟨some 14, none, (.mov (.t 6))⟩,
             ⟨some 15, none, (.idx 4 (.t 13) (.t 14))⟩,
             ⟨some 16, none, (.fptr 0 (.t 15))⟩,
             ⟨some 17, none, (.load false 1 (.t 16))⟩,
             ⟨some 18, none, (.mov (.t 1))⟩,
             ⟨some 19, none, (.bin .eql (.t 17) (.t 18))⟩])
           (.cond (.t 19)
            (.seq
             (.reg false [4, 5] [
               ⟨some 20, none, (.mov (.t 0))⟩,
               ⟨some 21, none, (.mov (.t 6))⟩,
               ⟨some 22, none, (.idx 4 (.t 20) (.t 21))⟩,
               ⟨some 23, none, (.load true 4 (.t 22))⟩,
               ⟨none, none, (.store 4 (.t 4) (.t 23))⟩,
               ⟨some 5, none, (.mov (.c (.bool true)))⟩])
             .ret)
            .skip)))
         (.reg false [0, 1, 4, 6] [
           ⟨some 11, none, (.mov (.t 6))⟩,
           ⟨some 12, none, (.bin .add (.t 11) (.c (.int .i64 1)))⟩,
           ⟨some 6, none, (.mov (.t 12))⟩]))))))
    (.seq
     (.reg false [4, 5] [
       ⟨some 24, none, (.build [(.int .i64 0), (.str ⟨⟨[]⟩⟩), (.sl .full []), (.sl .full [])] [])⟩,
       ⟨none, none, (.store 4 (.t 4) (.t 24))⟩,
       ⟨some 5, none, (.mov (.c (.bool false)))⟩])
     .ret)))
theorem of_constraintref49_Find {vals : List AV} {bs : List Box} {Q : AV → List Box → Prop} (hn : vals.length ≤ 25) (h : (⟨params 0 vals, bs, bs.length⟩ : St).fo true fun s => rc_constraintref49_Find.go Try.prog true s (retN [.cell 4 true 4, .slot 5] Q)) : AM.Sem Try.prog 48 vals bs Q :=
  Sem.of (fn := Try.f48) (keeps := [(0, [0, 1, 4]), (1, [0, 1, 4, 6]), (2, [0, 1, 4, 6, 10]), (4, [0, 1, 4, 6, 19]), (5, [4, 5]), (3, [0, 1, 4, 6]), (6, [4, 5])]) (solo := []) Try.func48 rfl (by kernel_rfl) (by kernel_rfl) (by kernel_rfl) hn (run_of h)
theorem op_constraintref49_Find {vals : List AV} {bs : List Box} {Q : AV → List Box → Prop} (hn : vals.length ≤ 25) (h : (⟨params 0 vals, bs, bs.length⟩ : St).fo true fun s => rc_constraintref49_Find.gp Try.prog true s (retP [.cell 4 true 4, .slot 5] Q)) : AM.Sem Try.prog 48 vals bs Q :=
  Sem.nrm (Sem.of (fn := Try.f48) (keeps := [(0, [0, 1, 4]), (1, [0, 1, 4, 6]), (2, [0, 1, 4, 6, 10]), (4, [0, 1, 4, 6, 19]), (5, [4, 5]), (3, [0, 1, 4, 6]), (6, [4, 5])]) (solo := []) Try.func48 rfl (by kernel_rfl) (by kernel_rfl) (by kernel_rfl) hn (run_gp h))

def rc_constraintref49_Same : RC :=
  (.seq
   (.reg false [2, 3] [
     ⟨some 2, none, (.box (.t 0))⟩,
     ⟨some 3, none, (.box (.t 1))⟩,
     ⟨some 4, none, (.mov (.c (.bool false)))⟩])
   (.seq
    (.reg false [4] [
      ⟨some 5, none, (.fptr 0 (.t 2))⟩,
      ⟨some 6, none, (.load false 1 (.t 5))⟩,
      ⟨some 7, none, (.fptr 0 (.t 3))⟩,
      ⟨some 8, none, (.load false 1 (.t 7))⟩,
      ⟨some 9, none, (.bin .eql (.t 6) (.t 8))⟩,
      ⟨some 10, none, (.mov (.t 9))⟩,
      ⟨some 11, some (10, true), (.fptr 1 (.t 2))⟩,
      ⟨some 12, some (10, true), (.load true 2 (.t 11))⟩,
      ⟨some 13, some (10, true), (.fptr 1 (.t 3))⟩,
      ⟨some 14, some (10, true), (.load true 2 (.t 13))⟩,
      ⟨some 15, some (10, true), (.call (.c (.fn (.func 85) [] [])) [(.t 12), (.t 14)])⟩,
      ⟨some 16, none, (.pick (.t 10) (.t 15) (.c (.bool false)))⟩,
      ⟨some 17, none, (.mov (.t 16))⟩,
      ⟨some 18, some (17, true), (.fptr 3 (.t 2))⟩,
      ⟨some 19, some (17, true), (.load false 1 (.t 18))⟩,
      ⟨some 20, some (17, true), (.fptr 3 (.t 3))⟩,
      ⟨some 21, some (17, true), (.load false 1 (.t 20))⟩,
      ⟨some 22, some (17, true), (.call (.c (.fn (.func 16) [] [])) [(.t 19), (.t 21)])⟩,
      ⟨some 23, none, (.pick (.t 17) (.t 22) (.c (.bool false)))⟩,
      ⟨some 4, none, (.mov (.t 23))⟩])
    .ret))
theorem of_constraintref49_Same {vals : List AV} {bs : List Box} {Q : AV → List Box → Prop} (hn : vals.length ≤ 24) (h : (⟨params 0 vals, bs, bs.length⟩ : St).fo true fun s => rc_constraintref49_Same.go Try.prog true s (retN [.slot 4] Q)) : AM.Sem Try.prog 49 vals bs Q :=
  Sem.of (fn := Try.f49) (keeps := [(0, [2, 3]), (1, [4])]) (solo := []) Try.func49 rfl (by kernel_rfl) (by kernel_rfl) (by kernel_rfl) hn (run_of h)
theorem op_constraintref49_Same {vals : List AV} {bs : List Box} {Q : AV → List Box → Prop} (hn : vals.length ≤ 24) (h : (⟨params 0 vals, bs, bs.length⟩ : St).fo true fun s => rc_constraintref49_Same.gp Try.prog true s (retP [.slot 4] Q)) : AM.Sem Try.prog 49 vals bs Q :=
  Sem.nrm (Sem.of (fn := Try.f49) (keeps := [(0, [2, 3]), (1, [4])]) (solo := []) Try.func49 rfl (by kernel_rfl) (by kernel_rfl) (by kernel_rfl) hn (run_gp h))

def rc_constraintref49_Great : RC :=
  (.seq
   (.reg false [0, 1] [
     ⟨some 4, none, (.mov (.c (.bool false)))⟩])
   (.seq
    (.seq
     (.reg false [0, 1, 9] [
       ⟨some 6, none, (.mov (.t 0))⟩,
       ⟨some 7, none, (.len false (.t 6))⟩,
       ⟨some 8, none, (.mov (.t 1))⟩,
       ⟨some 9, none, (.bin .gtr (.t 7) (.t 8))⟩])
     (.cond (.t 9)
      (.seq
       (.reg false [4] [
         ⟨some 4, none, (.mov (.c (.bool true)))⟩])
       .ret)
      .skip))
    (.seq
     (.seq
      (.reg false [0, 1, 5] [
        ⟨some 5, none, (.mov (.c (.int .i64 0)))⟩])
      (.block 0
       (.loop
        (.seq
         (.seq
          (.reg false [0, 1, 5, 13] [
            ⟨some 10, none, (.mov (.t 5))⟩,
            ⟨some 11, none, (.mov (.t 0))⟩,
            ⟨some 12, none, (.len false (.t 11))⟩,
            ⟨some 13, none, (.bin .lss (.t 10) (.t 12))⟩])
          (.cond (.t 13)
           .skip
           (.exit 0)))
         (.seq
          (.block 1
           (.seq
            (.reg false [0, 1, 5, 33] [
              ⟨some 16, none, (.mov (.t 0))⟩,
              ⟨some 17, none, (.mov (.t 5))⟩,
              ⟨some 18, none, (.idx 4 (.t 16) (.t 17))⟩,
              ⟨some 19, none, (.fptr 3 (.t 18))⟩,
              ⟨some 20, none, (.load false 1 (.t 19))⟩,
              ⟨some 21, none, (.len false (.t 20))⟩,
              ⟨some 22, none, (.mov (.t 1))⟩,
              ⟨some 23, none, (.bin .gtr (.t 21) (.t 22))⟩,
              ⟨some 24, none, (.mov (.t 23))⟩,
              ⟨some 25, some (24, false), (.mov (.t 0))⟩,
              ⟨some 26, some (24, false), (.mov (.t 5))⟩,
              ⟨some 27, some (24, false), (.idx 4 (.t 25) (.t 26))⟩,
              ⟨some 28, some (24, false), (.fptr 1 (.t 27))⟩,
              ⟨some 29, some (24, false), (.load true 2 (.t 28))⟩,
              ⟨some 30, some (24, false), (.bslice 2 [(.t 29)])⟩,
              ⟨some 31, some (24, false), (.mov (.t 1))⟩,
              ⟨some 32, some (24, false), (.call (.c (.fn (.func 84) [] [])) [(.t 30), (.t 31)])⟩,
              ⟨some 33, none, (.pick (.t 24) (.c (.bool true)) (.t 32))⟩])
            (.cond (.t 33)
             (.seq
              (.reg false [4] [
                ⟨some 4, none, (.mov (.c (.bool true)))⟩])
              .ret)
             .skip)))
          (.reg false [0, 1, 5] [
            ⟨some 14, none, (.mov (.t 5))⟩,
            ⟨some 15, none, (.bin .add (.t 14) (.c (.int .i64 1)))⟩,
            ⟨some 5, none, (.mov (.t 15))⟩]))))))
     (.seq
      (.reg false [4] [
        ⟨some 4, none, (.mov (.c (.bool false)))⟩])
      .ret))))
theorem of_constraintref49_Great {vals : List AV} {bs : List Box} {Q : AV → List Box → Prop} (hn : vals.length ≤ 34) (h : (⟨params 0 vals, bs, bs.length⟩ : St).fo true fun s => rc_constraintref49_Great.go Try.prog true s (retN [.slot 4] Q)) : AM.Sem Try.prog 46 vals bs Q :=
  Sem.of (fn := Try.f46) (keeps := [(0, [0, 1]), (1, [0, 1, 9]), (2, [4]), (3, [0, 1, 5]), (4, [0, 1, 5, 13]), (6, [0, 1, 5, 33]), (7, [4]), (5, [0, 1, 5]), (8, [4])]) (solo := []) Try.func46 rfl (by kernel_rfl) (by kernel_rfl) (by kernel_rfl) hn (run_of h)
theorem op_constraintref49_Great {vals : List AV} {bs : List Box} {Q : AV → List Box → Prop} (hn : vals.length ≤ 34) (h : (⟨params 0 vals, bs, bs.length⟩ : St).fo true fun s => rc_constraintref49_Great.gp Try.prog true s (retP [.slot 4] Q)) : AM.Sem Try.prog 46 vals bs Q :=
  Sem.nrm (Sem.of (fn := Try.f46) (keeps := [(0, [0, 1]), (1, [0, 1, 9]), (2, [4]), (3, [0, 1, 5]), (4, [0, 1, 5, 13]), (6, [0, 1, 5, 33]), (7, [4]), (5, [0, 1, 5]), (8, [4])]) (solo := []) Try.func46 rfl (by kernel_rfl) (by kernel_rfl) (by kernel_rfl) hn (run_gp h))

def rc_constraintref03_SameInts : RC :=
  (.seq
   (.reg false [0, 1] [
     ⟨some 4, none, (.mov (.c (.bool false)))⟩])
   (.seq
    (.seq
     (.reg false [0, 1, 10] [
       ⟨some 6, none, (.mov (.t 0))⟩,
       ⟨some 7, none, (.len false (.t 6))⟩,
       ⟨some 8, none, (.mov (.t 1))⟩,
       ⟨some 9, none, (.len false (.t 8))⟩,
       ⟨some 10, none, (.bin .neq (.t 7) (.t 9))⟩])
     (.cond (.t 10)
      (.seq
       (.reg false [4] [
         ⟨some 4, none, (.mov (.c (.bool false)))⟩])
       .ret)
      .skip))
    (.seq
     (.seq
      (.reg false [0, 1, 5] [
        ⟨some 5, none, (.mov (.c (.int .i64 0)))⟩])
      (.block 0
       (.loop
        (.seq
         (.seq
          (.reg false [0, 1, 5, 20] [
            ⟨some 11, none, (.mov (.t 5))⟩,
            ⟨some 12, none, (.mov (.t 0))⟩,
            ⟨some 13, none, (.len false (.t 12))⟩,
            ⟨some 14, none, (.bin .lss (.t 11) (.t 13))⟩,
            ⟨some 15, none, (.mov (.t 14))⟩,
            ⟨some 16, some (15, true), (.mov (.t 5))⟩,
            ⟨some 17, some (15, true), (.mov (.t 1))⟩,
            ⟨some 18, some (15, true), (.len false (.t 17))⟩,
            ⟨some 19, some (15, true), (.bin .lss (.t 16) (.t 18))⟩,
            ⟨some 20, none, (.pick (.t 15) (.t 19) (.c (.bool false)))⟩])
          (.cond (.t 20)
           .skip
           (.exit 0)))
         (.seq
          (.block 1
           (.seq
            (.reg true [0, 1, 5, 31] [
              ⟨some 23, none, (.mov (.t 0))⟩,
              ⟨some 24, none, (.mov (.t 5))⟩,
              ⟨some 25, none, (.idx 1 (.t 23) (.t 24))⟩,
              ⟨some 26, none, (.load false 1 (.t 25))⟩,
              ⟨some 27, none, (.mov (.t 1))⟩,
              ⟨some 28, none, (.mov (.t 5))⟩,
              ⟨some 29, none, (.idx 1 (.t 27) (.t 28))⟩,
              ⟨some 30, none, (.load false 1 (.t 29))⟩,
              ⟨some 31, none, (.bin .neq (.t 26) (.t 30))⟩])
            (.cond (.t 31)
             (.seq
              (.reg false [4] [
                ⟨some 4, none, (.mov (.c (.bool false)))⟩])
              .ret)
             .skip)))
          (.reg false [0, 1, 5] [
            ⟨some 21, none, (.mov (.t 5))⟩,
            ⟨some 22, none, (.bin .add (.t 21) (.c (.int .i64 1)))⟩,
            ⟨some 5, none, (.mov (.t 22))⟩]))))))
     (.seq
      (.reg false [4] [
        ⟨some 4, none, (.mov (.c (.bool true)))⟩])
      .ret))))
theorem of_constraintref03_SameInts {vals : List AV} {bs : List Box} {Q : AV → List Box → Prop} (hn : vals.length ≤ 32) (h : (⟨params 0 vals, bs, bs.length⟩ : St).fo true fun s => rc_constraintref03_SameInts.go Try.prog true s (retN [.slot 4] Q)) : AM.Sem Try.prog 16 vals bs Q :=
  Sem.of (fn := Try.f16) (keeps := [(0, [0, 1]), (1, [0, 1, 10]), (2, [4]), (3, [0, 1, 5]), (4, [0, 1, 5, 20]), (6, [0, 1, 5, 31]), (7, [4]), (5, [0, 1, 5]), (8, [4])]) (solo := []) Try.func16 rfl (by kernel_rfl) (by kernel_rfl) (by kernel_rfl) hn (run_of h)
theorem op_constraintref03_SameInts {vals : List AV} {bs : List Box} {Q : AV → List Box → Prop} (hn : vals.length ≤ 32) (h : (⟨params 0 vals, bs, bs.length⟩ : St).fo true fun s => rc_constraintref03_SameInts.gp Try.prog true s (retP [.slot 4] Q)) : AM.Sem Try.prog 16 vals bs Q :=
  Sem.nrm (Sem.of (fn := Try.f16) (keeps := [(0, [0, 1]), (1, [0, 1, 10]), (2, [4]), (3, [0, 1, 5]), (4, [0, 1, 5, 20]), (6, [0, 1, 5, 31]), (7, [4]), (5, [0, 1, 5]), (8, [4])]) (solo := []) Try.func16 rfl (by kernel_rfl) (by kernel_rfl) (by kernel_rfl) hn (run_gp h))

def rc_constraintref03_SameAtom : RC :=
  (.seq
   (.reg false [2, 3] [
     ⟨some 2, none, (.box (.t 0))⟩,
     ⟨some 3, none, (.box (.t 1))⟩,
     ⟨some 4, none, (.mov (.c (.bool false)))⟩])
   (.seq
    (.reg false [4] [
      ⟨some 5, none, (.load true 2 (.t 2))⟩,
      ⟨some 6, none, (.load true 2 (.t 3))⟩,
      ⟨some 7, none, (.call (.c (.fn (.func 105) [] [])) [(.t 5), (.t 6)])⟩,
      ⟨some 8, none, (.bin .eql (.t 7) (.c (.int .i64 0)))⟩,
      ⟨some 4, none, (.mov (.t 8))⟩])
    .ret))
theorem of_constraintref03_SameAtom {vals : List AV} {bs : List Box} {Q : AV → List Box → Prop} (hn : vals.length ≤ 9) (h : (⟨params 0 vals, bs, bs.length⟩ : St).fo true fun s => rc_constraintref03_SameAtom.go Try.prog true s (retN [.slot 4] Q)) : AM.Sem Try.prog 85 vals bs Q :=
  Sem.of (fn := Try.f85) (keeps := [(0, [2, 3]), (1, [4])]) (solo := []) Try.func85 rfl (by kernel_rfl) (by kernel_rfl) (by kernel_rfl) hn (run_of h)
theorem op_constraintref03_SameAtom {vals : List AV} {bs : List Box} {Q : AV → List Box → Prop} (hn : vals.length ≤ 9) (h : (⟨params 0 vals, bs, bs.length⟩ : St).fo true fun s => rc_constraintref03_SameAtom.gp Try.prog true s (retP [.slot 4] Q)) : AM.Sem Try.prog 85 vals bs Q :=
  Sem.nrm (Sem.of (fn := Try.f85) (keeps := [(0, [2, 3]), (1, [4])]) (solo := []) Try.func85 rfl (by kernel_rfl) (by kernel_rfl) (by kernel_rfl) hn (run_gp h))

def rc_constraintref03_GreatAtoms : RC :=
  (.seq
   (.reg false [0, 1] [
     ⟨some 4, none, (.mov (.c (.bool false)))⟩])
   (.seq
    (.seq
     (.reg false [0, 1, 5] [
       ⟨some 5, none, (.mov (.c (.int .i64 0)))⟩])
     (.block 0
      (.loop
       (.seq
        (.seq
         (.reg false [0, 1, 5, 13] [
           ⟨some 6, none, (.mov (.t 5))⟩,
           ⟨some 7, none, (.mov (.t 0))⟩,
           ⟨some 8, none, (.len false (.t 7))⟩,
           ⟨some 9, none, (.bin .lss (.t 6) (.t 8))⟩,
           ⟨some 10, none, (.mov (.t 9))⟩,
           ⟨some 11, some (10, true), (.mov (.t 1))⟩,
           ⟨some 12, some (10, true), (.bin .geq (.t 11) (.c (.int .i64 0)))⟩,
           ⟨some 13, none, (.pick (.t 10) (.t 12) (.c (.bool false)))⟩])
         (.cond (.t 13)
          .skip
          (.exit 0)))
        (.seq
         (.block 1
          (.reg true [0, 1, 5] [
            ⟨some 16, none, (.mov (.t 0))⟩,
            ⟨some 17, none, (.mov (.t 5))⟩,
            ⟨some 18, none, (.idx 2 (.t 16) (.t 17))⟩,
            ⟨some 19, none, (.fptr 1 (.t 18))⟩,
            ⟨some 20, none, (.load false 1 (.t 19))⟩,
            ⟨some 21, none, (.mov (.t 1))⟩,
            ⟨some 22, none, (.bin .sub (.t 21) (.c (.int .i64 1)))⟩,
            ⟨some 23, none, (.mov (.t 0))⟩,
            ⟨some 24, none, (.mov (.t 5))⟩,
            ⟨some 25, none, (.idx 2 (.t 23) (.t 24))⟩,
            ⟨some 26, none, (.fptr 0 (.t 25))⟩,
            ⟨some 27, none, (.load false 1 (.t 26))⟩,
            ⟨some 28, none, (.len true (.t 27))⟩,
            ⟨some 29, none, (.bin .quo (.t 28) (.c (.int .i64 8)))⟩,
            ⟨some 30, none, (.bin .sub (.t 22) (.t 29))⟩,
            ⟨some 31, none, (.call (.c (.fn (.func 104) [] [])) [(.t 20), (.t 30), (.c (.int .i64 64))])⟩,
            ⟨some 1, none, (.take 31)⟩]))
         (.reg false [0, 1, 5] [
           ⟨some 14, none, (.mov (.t 5))⟩,
           ⟨some 15, none, (.bin .add (.t 14) (.c (.int .i64 1)))⟩,
           ⟨some 5, none, (.mov (.t 15))⟩]))))))
    (.seq
     (.reg false [4] [
       ⟨some 32, none, (.mov (.t 1))⟩,
       ⟨some 33, none, (.bin .lss (.t 32) (.c (.int .i64 0)))⟩,
       ⟨some 4, none, (.mov (.t 33))⟩])
     .ret)))
theorem of_constraintref03_GreatAtoms {vals : List AV} {bs : List Box} {Q : AV → List Box → Prop} (hn : vals.length ≤ 34) (h : (⟨params 0 vals, bs, bs.length⟩ : St).fo true fun s => rc_constraintref03_GreatAtoms.go Try.prog true s (retN [.slot 4] Q)) : AM.Sem Try.prog 84 vals bs Q :=
  Sem.of (fn := Try.f84) (keeps := [(0, [0, 1]), (1, [0, 1, 5]), (2, [0, 1, 5, 13]), (4, [0, 1, 5]), (3, [0, 1, 5]), (5, [4])]) (solo := []) Try.func84 rfl (by kernel_rfl) (by kernel_rfl) (by kernel_rfl) hn (run_of h)
theorem op_constraintref03_GreatAtoms {vals : List AV} {bs : List Box} {Q : AV → List Box → Prop} (hn : vals.length ≤ 34) (h : (⟨params 0 vals, bs, bs.length⟩ : St).fo true fun s => rc_constraintref03_GreatAtoms.gp Try.prog true s (retP [.slot 4] Q)) : AM.Sem Try.prog 84 vals bs Q :=
  Sem.nrm (Sem.of (fn := Try.f84) (keeps := [(0, [0, 1]), (1, [0, 1, 5]), (2, [0, 1, 5, 13]), (4, [0, 1, 5]), (3, [0, 1, 5]), (5, [4])]) (solo := []) Try.func84 rfl (by kernel_rfl) (by kernel_rfl) (by kernel_rfl) hn (run_gp h))

def rc_constraintref03_CompareAtom : RC :=
  (.seq
   (.reg false [2, 3] [
     ⟨some 2, none, (.box (.t 0))⟩,
     ⟨some 3, none, (.box (.t 1))⟩,
     ⟨some 4, none, (.mov (.c (.int .i64 0)))⟩])
   (.seq
    (.reg false [2, 3, 5] [
      ⟨some 6, none, (.fptr 0 (.t 2))⟩,
      ⟨some 7, none, (.load false 1 (.t 6))⟩,
      ⟨some 8, none, (.fptr 0 (.t 3))⟩,
      ⟨some 9, none, (.load false 1 (.t 8))⟩,
      ⟨some 10, none, (.call (.c (.fn (.func 113) [] [])) [(.t 7), (.t 9)])⟩,
      ⟨some 5, none, (.mov (.t 10))⟩])
    (.seq
     (.seq
      (.reg false [2, 3, 5, 12] [
        ⟨some 11, none, (.mov (.t 5))⟩,
        ⟨some 12, none, (.bin .eql (.t 11) (.c (.int .i64 0)))⟩])
      (.cond (.t 12)
       (.reg false [2, 3, 5] [
         ⟨some 13, none, (.fptr 1 (.t 2))⟩,
         ⟨some 14, none, (.load false 1 (.t 13))⟩,
         ⟨some 15, none, (.len false (.t 14))⟩,
         ⟨some 16, none, (.fptr 1 (.t 3))⟩,
         ⟨some 17, none, (.load false 1 (.t 16))⟩,
         ⟨some 18, none, (.len false (.t 17))⟩,
         ⟨some 19, none, (.call (.c (.fn (.func 97) [] [])) [(.t 15), (.t 18)])⟩,
         ⟨some 5, none, (.mov (.t 19))⟩])
       .skip))
     (.seq
      (.seq
       (.reg false [2, 3, 5, 21] [
         ⟨some 20, none, (.mov (.t 5))⟩,
         ⟨some 21, none, (.bin .eql (.t 20) (.c (.int .i64 0)))⟩])
       (.cond (.t 21)
        (.reg false [5] [
          ⟨some 22, none, (.fptr 1 (.t 2))⟩,
          ⟨some 23, none, (.load false 1 (.t 22))⟩,
          ⟨some 24, none, (.fptr 1 (.t 3))⟩,
          ⟨some 25, none, (.load false 1 (.t 24))⟩,
          ⟨some 26, none, (.call (.c (.fn (.func 71) [] [])) [(.t 23), (.t 25)])⟩,
          ⟨some 5, none, (.mov (.t 26))⟩])
        .skip))
      (.seq
       (.reg false [4] [
         ⟨some 27, none, (.mov (.t 5))⟩,
         ⟨some 4, none, (.mov (.t 27))⟩])
       .ret)))))
theorem of_constraintref03_CompareAtom {vals : List AV} {bs : List Box} {Q : AV → List Box → Prop} (hn : vals.length ≤ 28) (h : (⟨params 0 vals, bs, bs.length⟩ : St).fo true fun s => rc_constraintref03_CompareAtom.go Try.prog true s (retN [.slot 4] Q)) : AM.Sem Try.prog 105 vals bs Q :=
  Sem.of (fn := Try.f105) (keeps := [(0, [2, 3]), (1, [2, 3, 5]), (2, [2, 3, 5, 12]), (3, [2, 3, 5]), (4, [2, 3, 5, 21]), (5, [5]), (6, [4])]) (solo := []) Try.func105 rfl (by kernel_rfl) (by kernel_rfl) (by kernel_rfl) hn (run_of h)
theorem op_constraintref03_CompareAtom {vals : List AV} {bs : List Box} {Q : AV → List Box → Prop} (hn : vals.length ≤ 28) (h : (⟨params 0 vals, bs, bs.length⟩ : St).fo true fun s => rc_constraintref03_CompareAtom.gp Try.prog true s (retP [.slot 4] Q)) : AM.Sem Try.prog 105 vals bs Q :=
  Sem.nrm (Sem.of (fn := Try.f105) (keeps := [(0, [2, 3]), (1, [2, 3, 5]), (2, [2, 3, 5, 12]), (3, [2, 3, 5]), (4, [2, 3, 5, 21]), (5, [5]), (6, [4])]) (solo := []) Try.func105 rfl (by kernel_rfl) (by kernel_rfl) (by kernel_rfl) hn (run_gp h))

def rc_constraintref03_Compare : RC :=
  (.seq
   (.reg false [2, 3] [
     ⟨some 2, none, (.box (.t 0))⟩,
     ⟨some 3, none, (.box (.t 1))⟩,
     ⟨some 4, none, (.mov (.c (.int .i64 0)))⟩])
   (.seq
    (.reg true [2, 3, 5] [
      ⟨some 6, none, (.load true 4 (.t 2))⟩,
      ⟨some 7, none, (.call (.c (.fn (.func 112) [] [])) [(.t 6)])⟩,
      ⟨some 8, none, (.load true 4 (.t 3))⟩,
      ⟨some 9, none, (.call (.c (.fn (.func 112) [] [])) [(.t 8)])⟩,
      ⟨some 10, none, (.call (.c (.fn (.func 97) [] [])) [(.t 7), (.t 9)])⟩,
      ⟨some 5, none, (.take 10)⟩])
    (.seq
     (.seq
      (.reg false [2, 3, 5, 12] [
        ⟨some 11, none, (.mov (.t 5))⟩,
        ⟨some 12, none, (.bin .neq (.t 11) (.c (.int .i64 0)))⟩])
      (.cond (.t 12)
       (.seq
        (.reg false [4] [
          ⟨some 13, none, (.mov (.t 5))⟩,
          ⟨some 4, none, (.mov (.t 13))⟩])
        .ret)
       .skip))
     (.seq
      (.seq
       (.reg false [2, 3, 15] [
         ⟨some 14, none, (.load true 4 (.t 2))⟩,
         ⟨some 15, none, (.call (.c (.fn (.func 112) [] [])) [(.t 14)])⟩])
       (.block 0
        (.seq
         (.seq
          (.reg false [2, 3, 15, 16] [
            ⟨some 17, none, (.bin .eql (.t 15) (.c (.int .i64 0)))⟩,
            ⟨some 16, none, (.mov (.t 17))⟩])
          (.cond (.t 16)
           .skip
           (.reg false [2, 3, 15, 16] [
             ⟨some 18, none, (.bin .eql (.t 15) (.c (.int .i64 1)))⟩,
             ⟨some 16, none, (.mov (.t 18))⟩])))
         (.cond (.t 16)
          (.seq
           (.reg false [4] [
             ⟨some 19, none, (.fptr 1 (.t 2))⟩,
             ⟨some 20, none, (.load false 1 (.t 19))⟩,
             ⟨some 21, none, (.fptr 1 (.t 3))⟩,
             ⟨some 22, none, (.load false 1 (.t 21))⟩,
             ⟨some 23, none, (.call (.c (.fn (.func 97) [] [])) [(.t 20), (.t 22)])⟩,
             ⟨some 4, none, (.mov (.t 23))⟩])
           .ret)
          (.seq
           (.reg false [2, 3, 24] [
             ⟨some 25, none, (.bin .eql (.t 15) (.c (.int .i64 2)))⟩,
             ⟨some 24, none, (.mov (.t 25))⟩])
           (.cond (.t 24)
            (.seq
             (.reg false [2, 3, 5] [
               ⟨some 26, none, (.fptr 3 (.t 2))⟩,
               ⟨some 27, none, (.load false 1 (.t 26))⟩,
               ⟨some 28, none, (.len false (.t 27))⟩,
               ⟨some 29, none, (.fptr 3 (.t 3))⟩,
               ⟨some 30, none, (.load false 1 (.t 29))⟩,
               ⟨some 31, none, (.len false (.t 30))⟩,
               ⟨some 32, none, (.call (.c (.fn (.func 97) [] [])) [(.t 28), (.t 31)])⟩,
               ⟨some 5, none, (.mov (.t 32))⟩])
             (.seq
              (.seq
               (.reg false [2, 3, 5, 34] [
                 ⟨some 33, none, (.mov (.t 5))⟩,
                 ⟨some 34, none, (.bin .eql (.t 33) (.c (.int .i64 0)))⟩])
               (.cond (.t 34)
                (.reg false [2, 3, 5] [
                  ⟨some 35, none, (.fptr 2 (.t 2))⟩,
                  ⟨some 36, none, (.load false 1 (.t 35))⟩,
                  ⟨some 37, none, (.fptr 2 (.t 3))⟩,
                  ⟨some 38, none, (.load false 1 (.t 37))⟩,
                  ⟨some 39, none, (.call (.c (.fn (.func 113) [] [])) [(.t 36), (.t 38)])⟩,
                  ⟨some 5, none, (.mov (.t 39))⟩])
                .skip))
              (.seq
               (.seq
                (.reg false [2, 3, 5, 41] [
                  ⟨some 40, none, (.mov (.t 5))⟩,
                  ⟨some 41, none, (.bin .eql (.t 40) (.c (.int .i64 0)))⟩])
                (.cond (.t 41)
                 (.reg false [5] [
                   ⟨some 42, none, (.fptr 3 (.t 2))⟩,
                   ⟨some 43, none, (.load false 1 (.t 42))⟩,
                   ⟨some 44, none, (.fptr 3 (.t 3))⟩,
                   ⟨some 45, none, (.load false 1 (.t 44))⟩,
                   ⟨some 46, none, (.call (.c (.fn (.func 71) [] [])) [(.t 43), (.t 45)])⟩,
                   ⟨some 5, none, (.mov (.t 46))⟩])
                 .skip))
               (.seq
                (.reg false [4] [
                  ⟨some 47, none, (.mov (.t 5))⟩,
                  ⟨some 4, none, (.mov (.t 47))⟩])
                .ret))))
            .skip))))))
      (.seq
       (.reg false [2, 3, 5] [
         ⟨some 48, none, (.fptr 0 (.t 2))⟩,
         ⟨some 49, none, (.load false 1 (.t 48))⟩,
         ⟨some 50, none, (.fptr 0 (.t 3))⟩,
         ⟨some 51, none, (.load false 1 (.t 50))⟩,
         ⟨some 52, none, (.call (.c (.fn (.func 97) [] [])) [(.t 49), (.t 51)])⟩,
         ⟨some 5, none, (.mov (.t 52))⟩])
       (.seq
        (.seq
         (.reg false [2, 3, 5, 54] [
           ⟨some 53, none, (.mov (.t 5))⟩,
           ⟨some 54, none, (.bin .eql (.t 53) (.c (.int .i64 0)))⟩])
         (.cond (.t 54)
          (.reg false [2, 3, 5] [
            ⟨some 55, none, (.fptr 1 (.t 2))⟩,
            ⟨some 56, none, (.load false 1 (.t 55))⟩,
            ⟨some 57, none, (.fptr 1 (.t 3))⟩,
            ⟨some 58, none, (.load false 1 (.t 57))⟩,
            ⟨some 59, none, (.call (.c (.fn (.func 97) [] [])) [(.t 56), (.t 58)])⟩,
            ⟨some 5, none, (.mov (.t 59))⟩])
          .skip))
        (.seq
         (.seq
          (.reg false [2, 3, 5, 61] [
            ⟨some 60, none, (.mov (.t 5))⟩,
            ⟨some 61, none, (.bin .eql (.t 60) (.c (.int .i64 0)))⟩])
          (.cond (.t 61)
           (.reg false [5] [
             ⟨some 62, none, (.fptr 2 (.t 2))⟩,
             ⟨some 63, none, (.load false 1 (.t 62))⟩,
             ⟨some 64, none, (.fptr 2 (.t 3))⟩,
             ⟨some 65, none, (.load false 1 (.t 64))⟩,
             ⟨some 66, none, (.call (.c (.fn (.func 113) [] [])) [(.t 63), (.t 65)])⟩,
             ⟨some 5, none, (.mov (.t 66))⟩])
           .skip))
         (.seq
          (.reg false [4] [
            ⟨some 67, none, (.mov (.t 5))⟩,
            ⟨some 4, none, (.mov (.t 67))⟩])
          .ret))))))))
theorem of_constraintref03_Compare {vals : List AV} {bs : List Box} {Q : AV → List Box → Prop} (hn : vals.length ≤ 68) (h : (⟨params 0 vals, bs, bs.length⟩ : St).fo true fun s => rc_constraintref03_Compare.go Try.prog true s (retN [.slot 4] Q)) : AM.Sem Try.prog 96 vals bs Q :=
  Sem.of (fn := Try.f96) (keeps := [(0, [2, 3]), (1, [2, 3, 5]), (2, [2, 3, 5, 12]), (3, [4]), (4, [2, 3, 15]), (5, [2, 3, 15, 16]), (6, [2, 3, 15, 16]), (8, [2, 3, 24]), (9, [2, 3, 5]), (10, [2, 3, 5, 34]), (11, [2, 3, 5]), (12, [2, 3, 5, 41]), (13, [5]), (14, [4]), (7, [4]), (15, [2, 3, 5]), (16, [2, 3, 5, 54]), (17, [2, 3, 5]), (18, [2, 3, 5, 61]), (19, [5]), (20, [4])]) (solo := []) Try.func96 rfl (by kernel_rfl) (by kernel_rfl) (by kernel_rfl) hn (run_of h)
theorem op_constraintref03_Compare {vals : List AV} {bs : List Box} {Q : AV → List Box → Prop} (hn : vals.length ≤ 68) (h : (⟨params 0 vals, bs, bs.length⟩ : St).fo true fun s => rc_constraintref03_Compare.gp Try.prog true s (retP [.slot 4] Q)) : AM.Sem Try.prog 96 vals bs Q :=
  Sem.nrm (Sem.of (fn := Try.f96) (keeps := [(0, [2, 3]), (1, [2, 3, 5]), (2, [2, 3, 5, 12]), (3, [4]), (4, [2, 3, 15]), (5, [2, 3, 15, 16]), (6, [2, 3, 15, 16]), (8, [2, 3, 24]), (9, [2, 3, 5]), (10, [2, 3, 5, 34]), (11, [2, 3, 5]), (12, [2, 3, 5, 41]), (13, [5]), (14, [4]), (7, [4]), (15, [2, 3, 5]), (16, [2, 3, 5, 54]), (17, [2, 3, 5]), (18, [2, 3, 5, 61]), (19, [5]), (20, [4])]) (solo := []) Try.func96 rfl (by kernel_rfl) (by kernel_rfl) (by kernel_rfl) hn (run_gp h))

def rc_constraintref03_args : RC :=
  (.seq
   (.reg false [1] [
     ⟨some 1, none, (.box (.t 0))⟩,
     ⟨some 2, none, (.mov (.c (.sl .full [])))⟩])
   (.seq
    (.seq
     (.reg false [1, 5] [
       ⟨some 3, none, (.fptr 0 (.t 1))⟩,
       ⟨some 4, none, (.load false 1 (.t 3))⟩,
       ⟨some 5, none, (.bin .eql (.t 4) (.c (.int .i64 2)))⟩])
     (.cond (.t 5)
      (.seq
       (.reg false [2] [
         ⟨some 6, none, (.fptr 3 (.t 1))⟩,
         ⟨some 7, none, (.load false 1 (.t 6))⟩,
         ⟨some 2, none, (.mov (.t 7))⟩])
       .ret)
      .skip))
    (.seq
     (.reg false [2] [
       ⟨some 2, none, (.mov (.c (.sl .full [])))⟩])
     .ret)))
theorem of_constraintref03_args {vals : List AV} {bs : List Box} {Q : AV → List Box → Prop} (hn : vals.length ≤ 8) (h : (⟨params 0 vals, bs, bs.length⟩ : St).fo true fun s => rc_constraintref03_args.go Try.prog true s (retN [.slot 2] Q)) : AM.Sem Try.prog 111 vals bs Q :=
  Sem.of (fn := Try.f111) (keeps := [(0, [1]), (1, [1, 5]), (2, [2]), (3, [2])]) (solo := []) Try.func111 rfl (by kernel_rfl) (by kernel_rfl) (by kernel_rfl) hn (run_of h)
theorem op_constraintref03_args {vals : List AV} {bs : List Box} {Q : AV → List Box → Prop} (hn : vals.length ≤ 8) (h : (⟨params 0 vals, bs, bs.length⟩ : St).fo true fun s => rc_constraintref03_args.gp Try.prog true s (retP [.slot 2] Q)) : AM.Sem Try.prog 111 vals bs Q :=
  Sem.nrm (Sem.of (fn := Try.f111) (keeps := [(0, [1]), (1, [1, 5]), (2, [2]), (3, [2])]) (solo := []) Try.func111 rfl (by kernel_rfl) (by kernel_rfl) (by kernel_rfl) hn (run_gp h))

def rc_constraintref03_class : RC :=
  (.seq
   (.reg false [1] [
     ⟨some 1, none, (.box (.t 0))⟩,
     ⟨some 2, none, (.mov (.c (.int .i64 0)))⟩])
   (.seq
    (.seq
     (.reg false [4] [
       ⟨some 3, none, (.fptr 0 (.t 1))⟩,
       ⟨some 4, none, (.load false 1 (.t 3))⟩])
     (.block 0
      (.seq
       (.reg false [4, 5] [
         ⟨some 6, none, (.bin .eql (.t 4) (.c (.int .i64 1)))⟩,
         ⟨some 5, none, (.mov (.t 6))⟩])
       (.cond (.t 5)
        (.seq
         (.reg false [2] [
           ⟨some 2, none, (.mov (.c (.int .i64 0)))⟩])
         .ret)
        (.seq
         (.reg false [4, 7] [
           ⟨some 8, none, (.bin .eql (.t 4) (.c (.int .i64 0)))⟩,
           ⟨some 7, none, (.mov (.t 8))⟩])
         (.cond (.t 7)
          (.seq
           (.reg false [2] [
             ⟨some 2, none, (.mov (.c (.int .i64 1)))⟩])
           .ret)
          (.seq
           (.reg false [9] [
             ⟨some 10, none, (.bin .eql (.t 4) (.c (.int .i64 2)))⟩,
             ⟨some 9, none, (.mov (.t 10))⟩])
           (.cond (.t 9)
            (.seq
             (.reg false [2] [
               ⟨some 2, none, (.mov (.c (.int .i64 2)))⟩])
             .ret)
            .skip))))))))
    (.seq
     (.reg false [2] [
       ⟨some 2, none, (.mov (.c (.int .i64 3)))⟩])
     .ret)))
theorem of_constraintref03_class {vals : List AV} {bs : List Box} {Q : AV → List Box → Prop} (hn : vals.length ≤ 11) (h : (⟨params 0 vals, bs, bs.length⟩ : St).fo true fun s => rc_constraintref03_class.go Try.prog true s (retN [.slot 2] Q)) : AM.Sem Try.prog 112 vals bs Q :=
  Sem.of (fn := Try.f112) (keeps := [(0, [1]), (1, [4]), (2, [4, 5]), (4, [4, 7]), (6, [9]), (7, [2]), (5, [2]), (3, [2]), (8, [2])]) (solo := []) Try.func112 rfl (by kernel_rfl) (by kernel_rfl) (by kernel_rfl) hn (run_of h)
theorem op_constraintref03_class {vals : List AV} {bs : List Box} {Q : AV → List Box → Prop} (hn : vals.length ≤ 11) (h : (⟨params 0 vals, bs, bs.length⟩ : St).fo true fun s => rc_constraintref03_class.gp Try.prog true s (retP [.slot 2] Q)) : AM.Sem Try.prog 112 vals bs Q :=
  Sem.nrm (Sem.of (fn := Try.f112) (keeps := [(0, [1]), (1, [4]), (2, [4, 5]), (4, [4, 7]), (6, [9]), (7, [2]), (5, [2]), (3, [2]), (8, [2])]) (solo := []) Try.func112 rfl (by kernel_rfl) (by kernel_rfl) (by kernel_rfl) hn (run_gp h))

def rc_constraintref03_texts : RC :=
  (.seq
   (.reg false [0, 1] [
     ⟨some 4, none, (.mov (.c (.int .i64 0)))⟩])
   (.seq
    (.block 0
     (.seq
      (.reg false [0, 1, 5] [
        ⟨some 6, none, (.mov (.t 0))⟩,
        ⟨some 7, none, (.mov (.t 1))⟩,
        ⟨some 8, none, (.bin .lss (.t 6) (.t 7))⟩,
        ⟨some 5, none, (.mov (.t 8))⟩])
      (.cond (.t 5)
       (.seq
        (.reg false [4] [
          ⟨some 4, none, (.mov (.c (.int .i64 (-1))))⟩])
        .ret)
       (.seq
        (.reg false [9] [
          ⟨some 10, none, (.mov (.t 0))⟩,
          ⟨some 11, none, (.mov (.t 1))⟩,
          ⟨some 12, none, (.bin .gtr (.t 10) (.t 11))⟩,
          ⟨some 9, none, (.mov (.t 12))⟩])
        (.cond (.t 9)
         (.seq
          (.reg false [4] [
            ⟨some 4, none, (.mov (.c (.int .i64 1)))⟩])
          .ret)
         .skip)))))
    (.seq
     (.reg false [4] [
       ⟨some 4, none, (.mov (.c (.int .i64 0)))⟩])
     .ret)))
theorem of_constraintref03_texts {vals : List AV} {bs : List Box} {Q : AV → List Box → Prop} (hn : vals.length ≤ 13) (h : (⟨params 0 vals, bs, bs.length⟩ : St).fo true fun s => rc_constraintref03_texts.go Try.prog true s (retN [.slot 4] Q)) : AM.Sem Try.prog 113 vals bs Q :=
  Sem.of (fn := Try.f113) (keeps := [(0, [0, 1]), (1, [0, 1, 5]), (3, [9]), (4, [4]), (2, [4]), (5, [4])]) (solo := []) Try.func113 rfl (by kernel_rfl) (by kernel_rfl) (by kernel_rfl) hn (run_of h)
theorem op_constraintref03_texts {vals : List AV} {bs : List Box} {Q : AV → List Box → Prop} (hn : vals.length ≤ 13) (h : (⟨params 0 vals, bs, bs.length⟩ : St).fo true fun s => rc_constraintref03_texts.gp Try.prog true s (retP [.slot 4] Q)) : AM.Sem Try.prog 113 vals bs Q :=
  Sem.nrm (Sem.of (fn := Try.f113) (keeps := [(0, [0, 1]), (1, [0, 1, 5]), (3, [9]), (4, [4]), (2, [4]), (5, [4])]) (solo := []) Try.func113 rfl (by kernel_rfl) (by kernel_rfl) (by kernel_rfl) hn (run_gp h))

def rc_constraintref03_ints : RC :=
  (.seq
   (.reg false [0, 1] [
     ⟨some 4, none, (.mov (.c (.int .i64 0)))⟩])
   (.seq
    (.block 0
     (.seq
      (.reg false [0, 1, 5] [
        ⟨some 6, none, (.mov (.t 0))⟩,
        ⟨some 7, none, (.mov (.t 1))⟩,
        ⟨some 8, none, (.bin .lss (.t 6) (.t 7))⟩,
        ⟨some 5, none, (.mov (.t 8))⟩])
      (.cond (.t 5)
       (.seq
        (.reg false [4] [
          ⟨some 4, none, (.mov (.c (.int .i64 (-1))))⟩])
        .ret)
       (.seq
        (.reg false [9] [
          ⟨some 10, none, (.mov (.t 0))⟩,
          ⟨some 11, none, (.mov (.t 1))⟩,
          ⟨some 12, none, (.bin .gtr (.t 10) (.t 11))⟩,
          ⟨some 9, none, (.mov (.t 12))⟩])
        (.cond (.t 9)
         (.seq
          (.reg false [4] [
            ⟨some 4, none, (.mov (.c (.int .i64 1)))⟩])
          .ret)
         .skip)))))
    (.seq
     (.reg false [4] [
       ⟨some 4, none, (.mov (.c (.int .i64 0)))⟩])
     .ret)))
theorem of_constraintref03_ints {vals : List AV} {bs : List Box} {Q : AV → List Box → Prop} (hn : vals.length ≤ 13) (h : (⟨params 0 vals, bs, bs.length⟩ : St).fo true fun s => rc_constraintref03_ints.go Try.prog true s (retN [.slot 4] Q)) : AM.Sem Try.prog 97 vals bs Q :=
  Sem.of (fn := Try.f97) (keeps := [(0, [0, 1]), (1, [0, 1, 5]), (3, [9]), (4, [4]), (2, [4]), (5, [4])]) (solo := []) Try.func97 rfl (by kernel_rfl) (by kernel_rfl) (by kernel_rfl) hn (run_of h)
theorem op_constraintref03_ints {vals : List AV} {bs : List Box} {Q : AV → List Box → Prop} (hn : vals.length ≤ 13) (h : (⟨params 0 vals, bs, bs.length⟩ : St).fo true fun s => rc_constraintref03_ints.gp Try.prog true s (retP [.slot 4] Q)) : AM.Sem Try.prog 97 vals bs Q :=
  Sem.nrm (Sem.of (fn := Try.f97) (keeps := [(0, [0, 1]), (1, [0, 1, 5]), (3, [9]), (4, [4]), (2, [4]), (5, [4])]) (solo := []) Try.func97 rfl (by kernel_rfl) (by kernel_rfl) (by kernel_rfl) hn (run_gp h))

def rc_constraintref03_lists : RC :=
  (.seq
   (.reg false [0, 1] [
     ⟨some 4, none, (.mov (.c (.int .i64 0)))⟩])
   (.seq
    (.seq
     (.reg false [0, 1, 5] [
       ⟨some 5, none, (.mov (.c (.int .i64 0)))⟩])
     (.block 0
      (.loop
       (.seq
        (.seq
         (.reg false [0, 1, 5, 16] [
           ⟨some 7, none, (.mov (.t 5))⟩,
           ⟨some 8, none, (.mov (.t 0))⟩,
           ⟨some 9, none, (.len false (.t 8))⟩,
           ⟨some 10, none, (.bin .lss (.t 7) (.t 9))⟩,
           ⟨some 11, none, (.mov (.t 10))⟩,
           ⟨some 12, some (11, true), (.mov (.t 5))⟩,
           ⟨some 13, some (11, true), (.mov (.t 1))⟩,
           ⟨some 14, some (11, true), (.len false (.t 13))⟩,
           ⟨some 15, some (11, true), (.bin .lss (.t 12) (.t 14))⟩,
           ⟨some 16, none, (.pick (.t 11) (.t 15) (.c (.bool false)))⟩])
         (.cond (.t 16)
          .skip
          (.exit 0)))
        (.seq
         (.block 1
          (.seq
           (.reg true [0, 1, 5, 6] [
             ⟨some 19, none, (.mov (.t 0))⟩,
             ⟨some 20, none, (.mov (.t 5))⟩,
             ⟨some 21, none, (.idx 4 (.t 19) (.t 20))⟩,
             ⟨some 22, none, (.load true 4 (.t 21))⟩,
             ⟨some 23, none, (.mov (.t 1))⟩,
             ⟨some 24, none, (.mov (.t 5))⟩,
             ⟨some 25, none, (.idx 4 (.t 23) (.t 24))⟩,
             ⟨some 26, none, (.load true 4 (.t 25))⟩,
             ⟨some 27, none, (.call (.c (.fn (.func 96) [] [])) [(.t 22), (.t 26)])⟩,
             ⟨some 6, none, (.take 27)⟩])
           (.seq
            (.reg false [0, 1, 5, 6, 29] [
              ⟨some 28, none, (.mov (.t 6))⟩,
              ⟨some 29, none, (.bin .neq (.t 28) (.c (.int .i64 0)))⟩])
            (.cond (.t 29)
             (.seq
              (.reg false [4] [
                ⟨some 30, none, (.mov (.t 6))⟩,
                ⟨some 4, none, (.mov (.t 30))⟩])
              .ret)
             .skip))))
         (.reg false [0, 1, 5] [
           ⟨some 17, none, (.mov (.t 5))⟩,
           ⟨some 18, none, (.bin .add (.t 17) (.c (.int .i64 1)))⟩,
           ⟨some 5, none, (.mov (.t 18))⟩]))))))
    (.seq
     (.reg false [4] [
       ⟨some 31, none, (.mov (.t 0))⟩,
       ⟨some 32, none, (.len false (.t 31))⟩,
       ⟨some 33, none, (.mov (.t 1))⟩,
       ⟨some 34, none, (.len false (.t 33))⟩,
       ⟨some 35, none, (.call (.c (.fn (.func 97) [] [])) [(.t 32), (.t 34)])⟩,
       ⟨some 4, none, (.mov (.t 35))⟩])
     .ret)))
theorem of_constraintref03_lists {vals : List AV} {bs : List Box} {Q : AV → List Box → Prop} (hn : vals.length ≤ 36) (h : (⟨params 0 vals, bs, bs.length⟩ : St).fo true fun s => rc_constraintref03_lists.go Try.prog true s (retN [.slot 4] Q)) : AM.Sem Try.prog 71 vals bs Q :=
  Sem.of (fn := Try.f71) (keeps := [(0, [0, 1]), (1, [0, 1, 5]), (2, [0, 1, 5, 16]), (4, [0, 1, 5, 6]), (5, [0, 1, 5, 6, 29]), (6, [4]), (3, [0, 1, 5]), (7, [4])]) (solo := []) Try.func71 rfl (by kernel_rfl) (by kernel_rfl) (by kernel_rfl) hn (run_of h)
theorem op_constraintref03_lists {vals : List AV} {bs : List Box} {Q : AV → List Box → Prop} (hn : vals.length ≤ 36) (h : (⟨params 0 vals, bs, bs.length⟩ : St).fo true fun s => rc_constraintref03_lists.gp Try.prog true s (retP [.slot 4] Q)) : AM.Sem Try.prog 71 vals bs Q :=
  Sem.nrm (Sem.of (fn := Try.f71) (keeps := [(0, [0, 1]), (1, [0, 1, 5]), (2, [0, 1, 5, 16]), (4, [0, 1, 5, 6]), (5, [0, 1, 5, 6, 29]), (6, [4]), (3, [0, 1, 5]), (7, [4])]) (solo := []) Try.func71 rfl (by kernel_rfl) (by kernel_rfl) (by kernel_rfl) hn (run_gp h))

def rc_constraintref03_weigh : RC :=
  (.seq
   (.reg false [0, 1, 2] [
     ⟨some 6, none, (.mov (.c (.int .i64 0)))⟩])
   (.seq
    (.seq
     (.reg false [0, 1, 2, 15] [
       ⟨some 8, none, (.mov (.t 2))⟩,
       ⟨some 9, none, (.bin .eql (.t 8) (.c (.int .i64 0)))⟩,
       ⟨some 10, none, (.mov (.t 9))⟩,
       ⟨some 11, some (10, false), (.mov (.t 0))⟩,
       ⟨some 12, some (10, false), (.len false (.t 11))⟩,
       ⟨some 13, some (10, false), (.mov (.t 1))⟩,
       ⟨some 14, some (10, false), (.bin .gtr (.t 12) (.t 13))⟩,
       ⟨some 15, none, (.pick (.t 10) (.c (.bool true)) (.t 14))⟩])
     (.cond (.t 15)
      (.seq
       (.reg false [6] [
         ⟨some 6, none, (.mov (.c (.int .i64 (-1))))⟩])
       .ret)
      .skip))
    (.seq
     (.seq
      (.reg false [0, 1, 2, 7] [
        ⟨some 7, none, (.mov (.c (.int .i64 0)))⟩])
      (.block 0
       (.loop
        (.seq
         (.seq
          (.reg false [0, 1, 2, 7, 23] [
            ⟨some 16, none, (.mov (.t 7))⟩,
            ⟨some 17, none, (.mov (.t 0))⟩,
            ⟨some 18, none, (.len false (.t 17))⟩,
            ⟨some 19, none, (.bin .lss (.t 16) (.t 18))⟩,
            ⟨some 20, none, (.mov (.t 19))⟩,
            ⟨some 21, some (20, true), (.mov (.t 1))⟩,
            ⟨some 22, some (20, true), (.bin .geq (.t 21) (.c (.int .i64 0)))⟩,
            ⟨some 23, none, (.pick (.t 20) (.t 22) (.c (.bool false)))⟩])
          (.cond (.t 23)
           .skip
           (.exit 0)))
         (.seq
          (.block 1
           (.reg true [0, 1, 2, 7] [
             ⟨some 26, none, (.mov (.t 0))⟩,
             ⟨some 27, none, (.mov (.t 7))⟩,
             ⟨some 28, none, (.idx 4 (.t 26) (.t 27))⟩,
             ⟨some 29, none, (.fptr 3 (.t 28))⟩,
             ⟨some 30, none, (.load false 1 (.t 29))⟩,
             ⟨some 31, none, (.mov (.t 1))⟩,
             ⟨some 32, none, (.bin .sub (.t 31) (.c (.int .i64 1)))⟩,
             ⟨some 33, none, (.mov (.t 0))⟩,
             ⟨some 34, none, (.mov (.t 7))⟩,
             ⟨some 35, none, (.idx 4 (.t 33) (.t 34))⟩,
             ⟨some 36, none, (.fptr 2 (.t 35))⟩,
             ⟨some 37, none, (.load false 1 (.t 36))⟩,
             ⟨some 38, none, (.len true (.t 37))⟩,
             ⟨some 39, none, (.bin .quo (.t 38) (.c (.int .i64 8)))⟩,
             ⟨some 40, none, (.bin .sub (.t 32) (.t 39))⟩,
             ⟨some 41, none, (.mov (.t 2))⟩,
             ⟨some 42, none, (.bin .sub (.t 41) (.c (.int .i64 1)))⟩,
             ⟨some 43, none, (.call (.c (.fn (.func 104) [] [])) [(.t 30), (.t 40), (.t 42)])⟩,
             ⟨some 1, none, (.take 43)⟩]))
          (.reg false [0, 1, 2, 7] [
            ⟨some 24, none, (.mov (.t 7))⟩,
            ⟨some 25, none, (.bin .add (.t 24) (.c (.int .i64 1)))⟩,
            ⟨some 7, none, (.mov (.t 25))⟩]))))))
     (.seq
      (.reg false [6] [
        ⟨some 44, none, (.mov (.t 1))⟩,
        ⟨some 6, none, (.mov (.t 44))⟩])
      .ret))))
theorem of_constraintref03_weigh {vals : List AV} {bs : List Box} {Q : AV → List Box → Prop} (hn : vals.length ≤ 45) (h : (⟨params 0 vals, bs, bs.length⟩ : St).fo true fun s => rc_constraintref03_weigh.go Try.prog true s (retN [.slot 6] Q)) : AM.Sem Try.prog 104 vals bs Q :=
  Sem.of (fn := Try.f104) (keeps := [(0, [0, 1, 2]), (1, [0, 1, 2, 15]), (2, [6]), (3, [0, 1, 2, 7]), (4, [0, 1, 2, 7, 23]), (6, [0, 1, 2, 7]), (5, [0, 1, 2, 7]), (7, [6])]) (solo := []) Try.func104 rfl (by kernel_rfl) (by kernel_rfl) (by kernel_rfl) hn (run_of h)
theorem op_constraintref03_weigh {vals : List AV} {bs : List Box} {Q : AV → List Box → Prop} (hn : vals.length ≤ 45) (h : (⟨params 0 vals, bs, bs.length⟩ : St).fo true fun s => rc_constraintref03_weigh.gp Try.prog true s (retP [.slot 6] Q)) : AM.Sem Try.prog 104 vals bs Q :=
  Sem.nrm (Sem.of (fn := Try.f104) (keeps := [(0, [0, 1, 2]), (1, [0, 1, 2, 15]), (2, [6]), (3, [0, 1, 2, 7]), (4, [0, 1, 2, 7, 23]), (6, [0, 1, 2, 7]), (5, [0, 1, 2, 7]), (7, [6])]) (solo := []) Try.func104 rfl (by kernel_rfl) (by kernel_rfl) (by kernel_rfl) hn (run_gp h))

def rc_constraintlaw49_live : RC :=
  (.seq
   (.reg false [] [
     ⟨some 0, none, (.mov (.c (.bool false)))⟩])
   (.seq
    (.reg false [1] [
      ⟨some 4, none, (.bslice 1 [(.c (.int .i64 2))])⟩,
      ⟨some 5, none, (.build [(.int .i64 0), (.str ⟨⟨[]⟩⟩), (.sl .full []), (.sl .full [])] [(0, 1, (.c (.int .i64 4))), (3, 1, (.t 4))])⟩,
      ⟨some 1, none, (.box (.c (.agg [(.int .i64 0), (.str ⟨⟨[]⟩⟩), (.sl .full []), (.sl .full [])])))⟩,
      ⟨none, none, (.store 4 (.t 1) (.t 5))⟩])
    (.seq
     (.reg false [1, 2, 3] [
       ⟨some 7, none, (.load true 4 (.t 1))⟩,
       ⟨some 8, none, (.bslice 4 [(.t 7)])⟩,
       ⟨some 9, none, (.call (.c (.fn (.func 47) [] [])) [(.t 8), (.c (.int .i64 4))])⟩,
       ⟨some 6, none, (.mov (.t 9))⟩,
       ⟨some 10, none, (.ext 0 (.t 6))⟩,
       ⟨some 11, none, (.ext 1 (.t 6))⟩,
       ⟨some 2, none, (.box (.c (.agg [(.int .i64 0), (.str ⟨⟨[]⟩⟩), (.sl .full []), (.sl .full [])])))⟩,
       ⟨none, none, (.store 4 (.t 2) (.t 10))⟩,
       ⟨some 3, none, (.mov (.t 11))⟩])
     (.seq
      (.reg false [0] [
        ⟨some 12, none, (.bslice 1 [(.c (.int .i64 3)), (.c (.int .i64 1))])⟩,
        ⟨some 13, none, (.bslice 1 [(.c (.int .i64 2)), (.c (.int .i64 3))])⟩,
        ⟨some 14, none, (.call (.c (.fn (.func 41) [] [])) [(.t 12), (.t 13)])⟩,
        ⟨some 15, none, (.bslice 1 [(.c (.int .i64 1)), (.c (.int .i64 2)), (.c (.int .i64 3))])⟩,
        ⟨some 16, none, (.call (.c (.fn (.func 16) [] [])) [(.t 14), (.t 15)])⟩,
        ⟨some 17, none, (.mov (.t 16))⟩,
        ⟨some 18, some (17, true), (.bslice 1 [(.c (.int .i64 1)), (.c (.int .i64 64))])⟩,
        ⟨some 19, some (17, true), (.call (.c (.fn (.func 39) [] [])) [(.t 18)])⟩,
        ⟨some 20, none, (.pick (.t 17) (.t 19) (.c (.bool false)))⟩,
        ⟨some 21, none, (.mov (.t 20))⟩,
        ⟨some 22, some (21, true), (.bslice 1 [(.c (.int .i64 5))])⟩,
        ⟨some 23, some (21, true), (.call (.c (.fn (.func 43) [] [])) [(.t 22), (.c (.int .i64 5))])⟩,
        ⟨some 24, none, (.pick (.t 21) (.t 23) (.c (.bool false)))⟩,
        ⟨some 25, none, (.mov (.t 24))⟩,
        ⟨some 26, some (25, true), (.load true 4 (.t 1))⟩,
        ⟨some 27, some (25, true), (.bslice 1 [(.c (.int .i64 1))])⟩,
        ⟨some 28, some (25, true), (.build [(.int .i64 0), (.str ⟨⟨[]⟩⟩), (.sl .full []), (.sl .full [])] [(3, 1, (.t 27))])⟩,
        ⟨some 29, some (25, true), (.bslice 4 [(.t 26), (.t 28)])⟩,
        ⟨some 30, some (25, true), (.call (.c (.fn (.func 50) [] [])) [(.t 29)])⟩,
        ⟨some 31, some (25, true), (.bslice 1 [(.c (.int .i64 1)), (.c (.int .i64 2))])⟩,
        ⟨some 32, some (25, true), (.call (.c (.fn (.func 16) [] [])) [(.t 30), (.t 31)])⟩,
        ⟨some 33, none, (.pick (.t 25) (.t 32) (.c (.bool false)))⟩,
        ⟨some 34, none, (.mov (.t 33))⟩,
        ⟨some 35, some (34, true), (.mov (.t 3))⟩,
        ⟨some 36, none, (.pick (.t 34) (.t 35) (.c (.bool false)))⟩,
        ⟨some 37, none, (.mov (.t 36))⟩,
        ⟨some 38, some (37, true), (.fptr 0 (.t 2))⟩,
        ⟨some 39, some (37, true), (.load false 1 (.t 38))⟩,
        ⟨some 40, some (37, true), (.bin .eql (.t 39) (.c (.int .i64 4)))⟩,
        ⟨some 41, none, (.pick (.t 37) (.t 40) (.c (.bool false)))⟩,
        ⟨some 42, none, (.mov (.t 41))⟩,
        ⟨some 43, some (42, true), (.load true 4 (.t 1))⟩,
        ⟨some 44, some (42, true), (.load true 4 (.t 1))⟩,
        ⟨some 45, some (42, true), (.call (.c (.fn (.func 52) [] [])) [(.t 43), (.t 44)])⟩,
        ⟨some 46, none, (.pick (.t 42) (.t 45) (.c (.bool false)))⟩,
        ⟨some 47, none, (.mov (.t 46))⟩,
        ⟨some 48, some (47, true), (.load true 4 (.t 1))⟩,
        ⟨some 49, some (47, true), (.build [(.int .i64 0), (.str ⟨⟨[]⟩⟩), (.sl .full []), (.sl .full [])] [(0, 1, (.c (.int .i64 4)))])⟩,
        ⟨some 50, some (47, true), (.call (.c (.fn (.func 52) [] [])) [(.t 48), (.t 49)])⟩,
        ⟨some 51, some (47, true), (.un .not (.t 50))⟩,
        ⟨some 52, none, (.pick (.t 47) (.t 51) (.c (.bool false)))⟩,
        ⟨some 0, none, (.mov (.t 52))⟩])
      .ret))))
theorem of_constraintlaw49_live {vals : List AV} {bs : List Box} {Q : AV → List Box → Prop} (hn : vals.length ≤ 53) (h : (⟨params 0 vals, bs, bs.length⟩ : St).fo true fun s => rc_constraintlaw49_live.go Try.prog true s (retN [.slot 0] Q)) : AM.Sem Try.prog 45 vals bs Q :=
  Sem.of (fn := Try.f45) (keeps := [(0, []), (1, [1]), (2, [1, 2, 3]), (3, [0])]) (solo := []) Try.func45 rfl (by kernel_rfl) (by kernel_rfl) (by kernel_rfl) hn (run_of h)
theorem op_constraintlaw49_live {vals : List AV} {bs : List Box} {Q : AV → List Box → Prop} (hn : vals.length ≤ 53) (h : (⟨params 0 vals, bs, bs.length⟩ : St).fo true fun s => rc_constraintlaw49_live.gp Try.prog true s (retP [.slot 0] Q)) : AM.Sem Try.prog 45 vals bs Q :=
  Sem.nrm (Sem.of (fn := Try.f45) (keeps := [(0, []), (1, [1]), (2, [1, 2, 3]), (3, [0])]) (solo := []) Try.func45 rfl (by kernel_rfl) (by kernel_rfl) (by kernel_rfl) hn (run_gp h))

def rc_constraintlaw49_JustifySets : RC :=
  (.seq
   (.reg false [0, 1, 2] [
     ⟨some 6, none, (.mov (.c (.bool false)))⟩])
   (.seq
    (.seq
     (.reg false [0, 1, 2, 14] [
       ⟨some 7, none, (.mov (.t 0))⟩,
       ⟨some 8, none, (.len false (.t 7))⟩,
       ⟨some 9, none, (.bin .gtr (.t 8) (.c (.int .i64 200)))⟩,
       ⟨some 10, none, (.mov (.t 9))⟩,
       ⟨some 11, some (10, false), (.mov (.t 1))⟩,
       ⟨some 12, some (10, false), (.len false (.t 11))⟩,
       ⟨some 13, some (10, false), (.bin .gtr (.t 12) (.c (.int .i64 200)))⟩,
       ⟨some 14, none, (.pick (.t 10) (.c (.bool true)) (.t 13))⟩])
     (.cond (.t 14)
      (.seq
       (.reg false [6] [
         ⟨some 6, none, (.mov (.c (.bool true)))⟩])
       .ret)
      .skip))
    (.seq
     (.reg false [6] [
       ⟨some 15, none, (.mov (.t 0))⟩,
       ⟨some 16, none, (.call (.c (.fn (.func 39) [] [])) [(.t 15)])⟩,
       ⟨some 17, none, (.mov (.t 0))⟩,
       ⟨some 18, none, (.call (.c (.fn (.func 40) [] [])) [(.t 17)])⟩,
       ⟨some 19, none, (.more (.eqB false) [(.t 16), (.t 18)])⟩,
       ⟨some 20, none, (.mov (.t 19))⟩,
       ⟨some 21, some (20, true), (.mov (.t 0))⟩,
       ⟨some 22, some (20, true), (.mov (.t 1))⟩,
       ⟨some 23, some (20, true), (.call (.c (.fn (.func 41) [] [])) [(.t 21), (.t 22)])⟩,
       ⟨some 24, some (20, true), (.mov (.t 0))⟩,
       ⟨some 25, some (20, true), (.mov (.t 1))⟩,
       ⟨some 26, some (20, true), (.call (.c (.fn (.func 42) [] [])) [(.t 24), (.t 25)])⟩,
       ⟨some 27, some (20, true), (.call (.c (.fn (.func 16) [] [])) [(.t 23), (.t 26)])⟩,
       ⟨some 28, none, (.pick (.t 20) (.t 27) (.c (.bool false)))⟩,
       ⟨some 29, none, (.mov (.t 28))⟩,
       ⟨some 30, some (29, true), (.mov (.t 0))⟩,
       ⟨some 31, some (29, true), (.mov (.t 2))⟩,
       ⟨some 32, some (29, true), (.call (.c (.fn (.func 43) [] [])) [(.t 30), (.t 31)])⟩,
       ⟨some 33, some (29, true), (.mov (.t 0))⟩,
       ⟨some 34, some (29, true), (.mov (.t 2))⟩,
       ⟨some 35, some (29, true), (.call (.c (.fn (.func 44) [] [])) [(.t 33), (.t 34)])⟩,
       ⟨some 36, some (29, true), (.more (.eqB false) [(.t 32), (.t 35)])⟩,
       ⟨some 37, none, (.pick (.t 29) (.t 36) (.c (.bool false)))⟩,
       ⟨some 38, none, (.mov (.t 37))⟩,
       ⟨some 39, some (38, true), (.call (.c (.fn (.func 45) [] [])) [])⟩,
       ⟨some 40, none, (.pick (.t 38) (.t 39) (.c (.bool false)))⟩,
       ⟨some 6, none, (.mov (.t 40))⟩])
     .ret)))
theorem of_constraintlaw49_JustifySets {vals : List AV} {bs : List Box} {Q : AV → List Box → Prop} (hn : vals.length ≤ 41) (h : (⟨params 0 vals, bs, bs.length⟩ : St).fo true fun s => rc_constraintlaw49_JustifySets.go Try.prog true s (retN [.slot 6] Q)) : AM.Sem Try.prog 9 vals bs Q :=
  Sem.of (fn := Try.f9) (keeps := [(0, [0, 1, 2]), (1, [0, 1, 2, 14]), (2, [6]), (3, [6])]) (solo := []) Try.func9 rfl (by kernel_rfl) (by kernel_rfl) (by kernel_rfl) hn (run_of h)
theorem op_constraintlaw49_JustifySets {vals : List AV} {bs : List Box} {Q : AV → List Box → Prop} (hn : vals.length ≤ 41) (h : (⟨params 0 vals, bs, bs.length⟩ : St).fo true fun s => rc_constraintlaw49_JustifySets.gp Try.prog true s (retP [.slot 6] Q)) : AM.Sem Try.prog 9 vals bs Q :=
  Sem.nrm (Sem.of (fn := Try.f9) (keeps := [(0, [0, 1, 2]), (1, [0, 1, 2, 14]), (2, [6]), (3, [6])]) (solo := []) Try.func9 rfl (by kernel_rfl) (by kernel_rfl) (by kernel_rfl) hn (run_gp h))

def rc_constraintlaw49_JustifyUnion : RC :=
  (.seq
   (.reg false [0, 1, 2] [
     ⟨some 6, none, (.mov (.c (.bool false)))⟩])
   (.seq
    (.seq
     (.reg false [0, 1, 2, 9] [
       ⟨some 8, none, (.call (.c (.fn (.func 45) [] [])) [])⟩,
       ⟨some 9, none, (.un .not (.t 8))⟩])
     (.cond (.t 9)
      (.seq
       (.reg false [6] [
         ⟨some 6, none, (.mov (.c (.bool false)))⟩])
       .ret)
      .skip))
    (.seq
     (.seq
      (.reg false [0, 1, 2, 17] [
        ⟨some 10, none, (.mov (.t 0))⟩,
        ⟨some 11, none, (.len false (.t 10))⟩,
        ⟨some 12, none, (.bin .gtr (.t 11) (.c (.int .i64 200)))⟩,
        ⟨some 13, none, (.mov (.t 12))⟩,
        ⟨some 14, some (13, false), (.mov (.t 1))⟩,
        ⟨some 15, some (13, false), (.len false (.t 14))⟩,
        ⟨some 16, some (13, false), (.bin .gtr (.t 15) (.c (.int .i64 200)))⟩,
        ⟨some 17, none, (.pick (.t 13) (.c (.bool true)) (.t 16))⟩])
      (.cond (.t 17)
       (.seq
        (.reg false [6] [
          ⟨some 6, none, (.mov (.c (.bool true)))⟩])
        .ret)
       .skip))
     (.seq
      (.reg false [0, 1, 2, 7] [
        ⟨some 18, none, (.mov (.t 0))⟩,
        ⟨some 19, none, (.mov (.t 1))⟩,
        ⟨some 20, none, (.call (.c (.fn (.func 41) [] [])) [(.t 18), (.t 19)])⟩,
        ⟨some 7, none, (.mov (.t 20))⟩])
      (.seq
       (.seq
        (.reg false [0, 1, 7, 32] [
          ⟨some 21, none, (.mov (.t 7))⟩,
          ⟨some 22, none, (.mov (.t 2))⟩,
          ⟨some 23, none, (.call (.c (.fn (.func 43) [] [])) [(.t 21), (.t 22)])⟩,
          ⟨some 24, none, (.mov (.t 0))⟩,
          ⟨some 25, none, (.mov (.t 2))⟩,
          ⟨some 26, none, (.call (.c (.fn (.func 43) [] [])) [(.t 24), (.t 25)])⟩,
          ⟨some 27, none, (.mov (.t 26))⟩,
          ⟨some 28, some (27, false), (.mov (.t 1))⟩,
          ⟨some 29, some (27, false), (.mov (.t 2))⟩,
          ⟨some 30, some (27, false), (.call (.c (.fn (.func 43) [] [])) [(.t 28), (.t 29)])⟩,
          ⟨some 31, none, (.pick (.t 27) (.c (.bool true)) (.t 30))⟩,
          ⟨some 32, none, (.more (.eqB true) [(.t 23), (.t 31)])⟩])
        (.cond (.t 32)
         (.seq
          (.reg false [6] [
            ⟨some 6, none, (.mov (.c (.bool false)))⟩])
          .ret)
         .skip))
       (.seq
        (.reg false [6] [
          ⟨some 33, none, (.mov (.t 0))⟩,
          ⟨some 34, none, (.call (.c (.fn (.func 39) [] [])) [(.t 33)])⟩,
          ⟨some 35, none, (.un .not (.t 34))⟩,
          ⟨some 36, none, (.mov (.t 35))⟩,
          ⟨some 37, some (36, false), (.mov (.t 1))⟩,
          ⟨some 38, some (36, false), (.call (.c (.fn (.func 39) [] [])) [(.t 37)])⟩,
          ⟨some 39, some (36, false), (.un .not (.t 38))⟩,
          ⟨some 40, none, (.pick (.t 36) (.c (.bool true)) (.t 39))⟩,
          ⟨some 41, none, (.mov (.t 40))⟩,
          ⟨some 42, some (41, false), (.mov (.t 7))⟩,
          ⟨some 43, some (41, false), (.call (.c (.fn (.func 39) [] [])) [(.t 42)])⟩,
          ⟨some 44, none, (.pick (.t 41) (.c (.bool true)) (.t 43))⟩,
          ⟨some 6, none, (.mov (.t 44))⟩])
        .ret))))))
theorem of_constraintlaw49_JustifyUnion {vals : List AV} {bs : List Box} {Q : AV → List Box → Prop} (hn : vals.length ≤ 45) (h : (⟨params 0 vals, bs, bs.length⟩ : St).fo true fun s => rc_constraintlaw49_JustifyUnion.go Try.prog true s (retN [.slot 6] Q)) : AM.Sem Try.prog 10 vals bs Q :=
  Sem.of (fn := Try.f10) (keeps := [(0, [0, 1, 2]), (1, [0, 1, 2, 9]), (2, [6]), (3, [0, 1, 2, 17]), (4, [6]), (5, [0, 1, 2, 7]), (6, [0, 1, 7, 32]), (7, [6]), (8, [6])]) (solo := []) Try.func10 rfl (by kernel_rfl) (by kernel_rfl) (by kernel_rfl) hn (run_of h)
theorem op_constraintlaw49_JustifyUnion {vals : List AV} {bs : List Box} {Q : AV → List Box → Prop} (hn : vals.length ≤ 45) (h : (⟨params 0 vals, bs, bs.length⟩ : St).fo true fun s => rc_constraintlaw49_JustifyUnion.gp Try.prog true s (retP [.slot 6] Q)) : AM.Sem Try.prog 10 vals bs Q :=
  Sem.nrm (Sem.of (fn := Try.f10) (keeps := [(0, [0, 1, 2]), (1, [0, 1, 2, 9]), (2, [6]), (3, [0, 1, 2, 17]), (4, [6]), (5, [0, 1, 2, 7]), (6, [0, 1, 7, 32]), (7, [6]), (8, [6])]) (solo := []) Try.func10 rfl (by kernel_rfl) (by kernel_rfl) (by kernel_rfl) hn (run_gp h))

def rc_constraintlaw49_JustifyAlgebra : RC :=
  (.seq
   (.reg false [0, 1, 2] [
     ⟨some 6, none, (.mov (.c (.bool false)))⟩])
   (.seq
    (.seq
     (.reg false [0, 1, 2, 9] [
       ⟨some 8, none, (.call (.c (.fn (.func 45) [] [])) [])⟩,
       ⟨some 9, none, (.un .not (.t 8))⟩])
     (.cond (.t 9)
      (.seq
       (.reg false [6] [
         ⟨some 6, none, (.mov (.c (.bool false)))⟩])
       .ret)
      .skip))
    (.seq
     (.seq
      (.reg false [0, 1, 2, 22] [
        ⟨some 10, none, (.mov (.t 0))⟩,
        ⟨some 11, none, (.len false (.t 10))⟩,
        ⟨some 12, none, (.bin .gtr (.t 11) (.c (.int .i64 150)))⟩,
        ⟨some 13, none, (.mov (.t 12))⟩,
        ⟨some 14, some (13, false), (.mov (.t 1))⟩,
        ⟨some 15, some (13, false), (.len false (.t 14))⟩,
        ⟨some 16, some (13, false), (.bin .gtr (.t 15) (.c (.int .i64 150)))⟩,
        ⟨some 17, none, (.pick (.t 13) (.c (.bool true)) (.t 16))⟩,
        ⟨some 18, none, (.mov (.t 17))⟩,
        ⟨some 19, some (18, false), (.mov (.t 2))⟩,
        ⟨some 20, some (18, false), (.len false (.t 19))⟩,
        ⟨some 21, some (18, false), (.bin .gtr (.t 20) (.c (.int .i64 150)))⟩,
        ⟨some 22, none, (.pick (.t 18) (.c (.bool true)) (.t 21))⟩])
      (.cond (.t 22)
       (.seq
        (.reg false [6] [
          ⟨some 6, none, (.mov (.c (.bool true)))⟩])
        .ret)
       .skip))
     (.seq
      (.reg false [0, 1, 2, 7] [
        ⟨some 23, none, (.mov (.t 0))⟩,
        ⟨some 24, none, (.mov (.t 1))⟩,
        ⟨some 25, none, (.call (.c (.fn (.func 41) [] [])) [(.t 23), (.t 24)])⟩,
        ⟨some 7, none, (.mov (.t 25))⟩])
      (.seq
       (.seq
        (.reg false [0, 51] [
          ⟨some 26, none, (.mov (.t 7))⟩,
          ⟨some 27, none, (.mov (.t 1))⟩,
          ⟨some 28, none, (.mov (.t 0))⟩,
          ⟨some 29, none, (.call (.c (.fn (.func 41) [] [])) [(.t 27), (.t 28)])⟩,
          ⟨some 30, none, (.call (.c (.fn (.func 16) [] [])) [(.t 26), (.t 29)])⟩,
          ⟨some 31, none, (.un .not (.t 30))⟩,
          ⟨some 32, none, (.mov (.t 31))⟩,
          ⟨some 33, some (32, false), (.mov (.t 7))⟩,
          ⟨some 34, some (32, false), (.mov (.t 2))⟩,
          ⟨some 35, some (32, false), (.call (.c (.fn (.func 41) [] [])) [(.t 33), (.t 34)])⟩,
          ⟨some 36, some (32, false), (.mov (.t 0))⟩,
          ⟨some 37, some (32, false), (.mov (.t 1))⟩,
          ⟨some 38, some (32, false), (.mov (.t 2))⟩,
          ⟨some 39, some (32, false), (.call (.c (.fn (.func 41) [] [])) [(.t 37), (.t 38)])⟩,
          ⟨some 40, some (32, false), (.call (.c (.fn (.func 41) [] [])) [(.t 36), (.t 39)])⟩,
          ⟨some 41, some (32, false), (.call (.c (.fn (.func 16) [] [])) [(.t 35), (.t 40)])⟩,
          ⟨some 42, some (32, false), (.un .not (.t 41))⟩,
          ⟨some 43, none, (.pick (.t 32) (.c (.bool true)) (.t 42))⟩,
          ⟨some 44, none, (.mov (.t 43))⟩,
          ⟨some 45, some (44, false), (.mov (.t 7))⟩,
          ⟨some 46, some (44, false), (.mov (.t 7))⟩,
          ⟨some 47, some (44, false), (.call (.c (.fn (.func 41) [] [])) [(.t 45), (.t 46)])⟩,
          ⟨some 48, some (44, false), (.mov (.t 7))⟩,
          ⟨some 49, some (44, false), (.call (.c (.fn (.func 16) [] [])) [(.t 47), (.t 48)])⟩,
          ⟨some 50, some (44, false), (.un .not (.t 49))⟩,
          ⟨some 51, none, (.pick (.t 44) (.c (.bool true)) (.t 50))⟩])
        (.cond (.t 51)
         (.seq
          (.reg false [6] [
            ⟨some 6, none, (.mov (.c (.bool false)))⟩])
          .ret)
         .skip))
       (.seq
        (.reg false [6] [
          ⟨some 52, none, (.mov (.t 0))⟩,
          ⟨some 53, none, (.call (.c (.fn (.func 39) [] [])) [(.t 52)])⟩,
          ⟨some 54, none, (.un .not (.t 53))⟩,
          ⟨some 55, none, (.mov (.t 54))⟩,
          ⟨some 56, some (55, false), (.mov (.t 0))⟩,
          ⟨some 57, some (55, false), (.call (.c (.fn (.func 41) [] [])) [(.t 56), (.c (.sl .full []))])⟩,
          ⟨some 58, some (55, false), (.mov (.t 0))⟩,
          ⟨some 59, some (55, false), (.call (.c (.fn (.func 16) [] [])) [(.t 57), (.t 58)])⟩,
          ⟨some 60, some (55, false), (.mov (.t 59))⟩,
          ⟨some 61, some (60, true), (.mov (.t 0))⟩,
          ⟨some 62, some (60, true), (.call (.c (.fn (.func 41) [] [])) [(.c (.sl .full [])), (.t 61)])⟩,
          ⟨some 63, some (60, true), (.mov (.t 0))⟩,
          ⟨some 64, some (60, true), (.call (.c (.fn (.func 16) [] [])) [(.t 62), (.t 63)])⟩,
          ⟨some 65, some (55, false), (.pick (.t 60) (.t 64) (.c (.bool false)))⟩,
          ⟨some 66, none, (.pick (.t 55) (.c (.bool true)) (.t 65))⟩,
          ⟨some 6, none, (.mov (.t 66))⟩])
        .ret))))))
theorem of_constraintlaw49_JustifyAlgebra {vals : List AV} {bs : List Box} {Q : AV → List Box → Prop} (hn : vals.length ≤ 67) (h : (⟨params 0 vals, bs, bs.length⟩ : St).fo true fun s => rc_constraintlaw49_JustifyAlgebra.go Try.prog true s (retN [.slot 6] Q)) : AM.Sem Try.prog 11 vals bs Q :=
  Sem.of (fn := Try.f11) (keeps := [(0, [0, 1, 2]), (1, [0, 1, 2, 9]), (2, [6]), (3, [0, 1, 2, 22]), (4, [6]), (5, [0, 1, 2, 7]), (6, [0, 51]), (7, [6]), (8, [6])]) (solo := []) Try.func11 rfl (by kernel_rfl) (by kernel_rfl) (by kernel_rfl) hn (run_of h)
theorem op_constraintlaw49_JustifyAlgebra {vals : List AV} {bs : List Box} {Q : AV → List Box → Prop} (hn : vals.length ≤ 67) (h : (⟨params 0 vals, bs, bs.length⟩ : St).fo true fun s => rc_constraintlaw49_JustifyAlgebra.gp Try.prog true s (retP [.slot 6] Q)) : AM.Sem Try.prog 11 vals bs Q :=
  Sem.nrm (Sem.of (fn := Try.f11) (keeps := [(0, [0, 1, 2]), (1, [0, 1, 2, 9]), (2, [6]), (3, [0, 1, 2, 22]), (4, [6]), (5, [0, 1, 2, 7]), (6, [0, 51]), (7, [6]), (8, [6])]) (solo := []) Try.func11 rfl (by kernel_rfl) (by kernel_rfl) (by kernel_rfl) hn (run_gp h))

def rc_constraintlaw49_JustifyFacts : RC :=
  (.seq
   (.reg false [0, 2, 4] [
     ⟨some 4, none, (.box (.t 1))⟩,
     ⟨some 6, none, (.mov (.c (.bool false)))⟩])
   (.seq
    (.seq
     (.reg false [0, 2, 4, 18] [
       ⟨some 12, none, (.mov (.t 0))⟩,
       ⟨some 13, none, (.call (.c (.fn (.func 46) [] [])) [(.t 12), (.c (.int .i64 60))])⟩,
       ⟨some 14, none, (.mov (.t 13))⟩,
       ⟨some 15, some (14, false), (.load true 4 (.t 4))⟩,
       ⟨some 16, some (14, false), (.bslice 4 [(.t 15)])⟩,
       ⟨some 17, some (14, false), (.call (.c (.fn (.func 46) [] [])) [(.t 16), (.c (.int .i64 60))])⟩,
       ⟨some 18, none, (.pick (.t 14) (.c (.bool true)) (.t 17))⟩])
     (.cond (.t 18)
      (.seq
       (.reg false [6] [
         ⟨some 6, none, (.mov (.c (.bool true)))⟩])
       .ret)
      .skip))
    (.seq
     (.reg false [0, 2, 4, 7, 8] [
       ⟨some 20, none, (.mov (.t 0))⟩,
       ⟨some 21, none, (.mov (.t 2))⟩,
       ⟨some 22, none, (.call (.c (.fn (.func 47) [] [])) [(.t 20), (.t 21)])⟩,
       ⟨some 19, none, (.mov (.t 22))⟩,
       ⟨some 23, none, (.ext 0 (.t 19))⟩,
       ⟨some 24, none, (.ext 1 (.t 19))⟩,
       ⟨some 7, none, (.box (.c (.agg [(.int .i64 0), (.str ⟨⟨[]⟩⟩), (.sl .full []), (.sl .full [])])))⟩,
       ⟨none, none, (.store 4 (.t 7) (.t 23))⟩,
       ⟨some 8, none, (.mov (.t 24))⟩])
     (.seq
      (.reg false [0, 4, 7, 8, 9, 10] [
        ⟨some 26, none, (.mov (.t 0))⟩,
        ⟨some 27, none, (.mov (.t 2))⟩,
        ⟨some 28, none, (.call (.c (.fn (.func 48) [] [])) [(.t 26), (.t 27)])⟩,
        ⟨some 25, none, (.mov (.t 28))⟩,
        ⟨some 29, none, (.ext 0 (.t 25))⟩,
        ⟨some 30, none, (.ext 1 (.t 25))⟩,
        ⟨some 9, none, (.box (.c (.agg [(.int .i64 0), (.str ⟨⟨[]⟩⟩), (.sl .full []), (.sl .full [])])))⟩,
        ⟨none, none, (.store 4 (.t 9) (.t 29))⟩,
        ⟨some 10, none, (.mov (.t 30))⟩])
      (.seq
       (.seq
        (.reg false [0, 4, 47] [
          ⟨some 31, none, (.mov (.t 8))⟩,
          ⟨some 32, none, (.mov (.t 10))⟩,
          ⟨some 33, none, (.more (.eqB true) [(.t 31), (.t 32)])⟩,
          ⟨some 34, none, (.mov (.t 33))⟩,
          ⟨some 35, some (34, false), (.load true 4 (.t 7))⟩,
          ⟨some 36, some (34, false), (.load true 4 (.t 9))⟩,
          ⟨some 37, some (34, false), (.call (.c (.fn (.func 49) [] [])) [(.t 35), (.t 36)])⟩,
          ⟨some 38, some (34, false), (.un .not (.t 37))⟩,
          ⟨some 39, none, (.pick (.t 34) (.c (.bool true)) (.t 38))⟩,
          ⟨some 40, none, (.mov (.t 39))⟩,
          ⟨some 41, some (40, false), (.mov (.t 0))⟩,
          ⟨some 42, some (40, false), (.call (.c (.fn (.func 50) [] [])) [(.t 41)])⟩,
          ⟨some 43, some (40, false), (.mov (.t 0))⟩,
          ⟨some 44, some (40, false), (.call (.c (.fn (.func 51) [] [])) [(.t 43)])⟩,
          ⟨some 45, some (40, false), (.call (.c (.fn (.func 16) [] [])) [(.t 42), (.t 44)])⟩,
          ⟨some 46, some (40, false), (.un .not (.t 45))⟩,
          ⟨some 47, none, (.pick (.t 40) (.c (.bool true)) (.t 46))⟩])
        (.cond (.t 47)
         (.seq
          (.reg false [6] [
            ⟨some 6, none, (.mov (.c (.bool false)))⟩])
          .ret)
         .skip))
       (.seq
        (.seq
         (.reg false [0, 4, 11] [
           ⟨some 11, none, (.mov (.c (.int .i64 0)))⟩])
         (.block 0
          (.loop
           (.seq
            (.seq
             (.reg false [0, 4, 11, 51] [
               ⟨some 48, none, (.mov (.t 11))⟩,
               ⟨some 49, none, (.mov (.t 0))⟩,
               ⟨some 50, none, (.len false (.t 49))⟩,
               ⟨some 51, none, (.bin .lss (.t 48) (.t 50))⟩])
             (.cond (.t 51)
              .skip
              (.exit 0)))
            (.seq
             (.block 1
              (.seq
               (.reg true [0, 4, 11, 66] [
                 ⟨some 54, none, (.mov (.t 0))⟩,
                 ⟨some 55, none, (.mov (.t 11))⟩,
                 ⟨some 56, none, (.idx 4 (.t 54) (.t 55))⟩,
                 ⟨some 57, none, (.load true 4 (.t 56))⟩,
                 ⟨some 58, none, (.load true 4 (.t 4))⟩,
                 ⟨some 59, none, (.call (.c (.fn (.func 52) [] [])) [(.t 57), (.t 58)])⟩,
                 ⟨some 60, none, (.mov (.t 0))⟩,
                 ⟨some 61, none, (.mov (.t 11))⟩,
                 ⟨some 62, none, (.idx 4 (.t 60) (.t 61))⟩,
                 ⟨some 63, none, (.load true 4 (.t 62))⟩,
                 ⟨some 64, none, (.load true 4 (.t 4))⟩,
                 ⟨some 65, none, (.call (.c (.fn (.func 49) [] [])) [(.t 63), (.t 64)])⟩,
                 ⟨some 66, none, (.more (.eqB true) [(.t 59), (.t 65)])⟩])
               (.cond (.t 66)
                (.seq
                 (.reg false [6] [
                   ⟨some 6, none, (.mov (.c (.bool false)))⟩])
                 .ret)
                .skip)))
             (.reg false [0, 4, 11] [
               ⟨some 52, none, (.mov (.t 11))⟩,
               ⟨some 53, none, (.bin .add (.t 52) (.c (.int .i64 1)))⟩,
               ⟨some 11, none, (.mov (.t 53))⟩]))))))
        (.seq
         (.reg false [6] [
           ⟨some 67, none, (.load true 4 (.t 4))⟩,
           ⟨some 68, none, (.load true 4 (.t 4))⟩,
           ⟨some 69, none, (.call (.c (.fn (.func 52) [] [])) [(.t 67), (.t 68)])⟩,
           ⟨some 70, none, (.mov (.t 69))⟩,
           ⟨some 71, some (70, true), (.call (.c (.fn (.func 45) [] [])) [])⟩,
           ⟨some 72, none, (.pick (.t 70) (.t 71) (.c (.bool false)))⟩,
           ⟨some 6, none, (.mov (.t 72))⟩])
         .ret)))))))
theorem of_constraintlaw49_JustifyFacts {vals : List AV} {bs : List Box} {Q : AV → List Box → Prop} (hn : vals.length ≤ 73) (h : (⟨params 0 vals, bs, bs.length⟩ : St).fo true fun s => rc_constraintlaw49_JustifyFacts.go Try.prog true s (retN [.slot 6] Q)) : AM.Sem Try.prog 12 vals bs Q :=
  Sem.of (fn := Try.f12) (keeps := [(0, [0, 2, 4]), (1, [0, 2, 4, 18]), (2, [6]), (3, [0, 2, 4, 7, 8]), (4, [0, 4, 7, 8, 9, 10]), (5, [0, 4, 47]), (6, [6]), (7, [0, 4, 11]), (8, [0, 4, 11, 51]), (10, [0, 4, 11, 66]), (11, [6]), (9, [0, 4, 11]), (12, [6])]) (solo := []) Try.func12 rfl (by kernel_rfl) (by kernel_rfl) (by kernel_rfl) hn (run_of h)
theorem op_constraintlaw49_JustifyFacts {vals : List AV} {bs : List Box} {Q : AV → List Box → Prop} (hn : vals.length ≤ 73) (h : (⟨params 0 vals, bs, bs.length⟩ : St).fo true fun s => rc_constraintlaw49_JustifyFacts.gp Try.prog true s (retP [.slot 6] Q)) : AM.Sem Try.prog 12 vals bs Q :=
  Sem.nrm (Sem.of (fn := Try.f12) (keeps := [(0, [0, 2, 4]), (1, [0, 2, 4, 18]), (2, [6]), (3, [0, 2, 4, 7, 8]), (4, [0, 4, 7, 8, 9, 10]), (5, [0, 4, 47]), (6, [6]), (7, [0, 4, 11]), (8, [0, 4, 11, 51]), (10, [0, 4, 11, 66]), (11, [6]), (9, [0, 4, 11]), (12, [6])]) (solo := []) Try.func12 rfl (by kernel_rfl) (by kernel_rfl) (by kernel_rfl) hn (run_gp h))

def rc_constraintlaw49_JustifySplits : RC :=
  (.seq
   (.reg false [0, 1] [
     ⟨some 4, none, (.mov (.c (.bool false)))⟩])
   (.seq
    (.seq
     (.reg false [0, 1, 6] [
       ⟨some 5, none, (.call (.c (.fn (.func 45) [] [])) [])⟩,
       ⟨some 6, none, (.un .not (.t 5))⟩])
     (.cond (.t 6)
      (.seq
       (.reg false [4] [
         ⟨some 4, none, (.mov (.c (.bool false)))⟩])
       .ret)
      .skip))
    (.seq
     (.seq
      (.reg false [0, 1, 12] [
        ⟨some 7, none, (.mov (.t 0))⟩,
        ⟨some 8, none, (.call (.c (.fn (.func 46) [] [])) [(.t 7), (.c (.int .i64 60))])⟩,
        ⟨some 9, none, (.mov (.t 8))⟩,
        ⟨some 10, some (9, false), (.mov (.t 1))⟩,
        ⟨some 11, some (9, false), (.call (.c (.fn (.func 46) [] [])) [(.t 10), (.c (.int .i64 60))])⟩,
        ⟨some 12, none, (.pick (.t 9) (.c (.bool true)) (.t 11))⟩])
      (.cond (.t 12)
       (.seq
        (.reg false [4] [
          ⟨some 4, none, (.mov (.c (.bool true)))⟩])
        .ret)
       .skip))
     (.seq
      (.reg false [4] [
        ⟨some 13, none, (.bslice 4 [])⟩,
        ⟨some 14, none, (.mov (.t 0))⟩,
        ⟨some 15, none, (.append 4 (.t 13) (.t 14))⟩,
        ⟨some 16, none, (.mov (.t 1))⟩,
        ⟨some 17, none, (.append 4 (.t 15) (.t 16))⟩,
        ⟨some 18, none, (.call (.c (.fn (.func 50) [] [])) [(.t 17)])⟩,
        ⟨some 19, none, (.mov (.t 0))⟩,
        ⟨some 20, none, (.call (.c (.fn (.func 50) [] [])) [(.t 19)])⟩,
        ⟨some 21, none, (.mov (.t 1))⟩,
        ⟨some 22, none, (.call (.c (.fn (.func 50) [] [])) [(.t 21)])⟩,
        ⟨some 23, none, (.call (.c (.fn (.func 41) [] [])) [(.t 20), (.t 22)])⟩,
        ⟨some 24, none, (.call (.c (.fn (.func 16) [] [])) [(.t 18), (.t 23)])⟩,
        ⟨some 4, none, (.mov (.t 24))⟩])
      .ret))))
theorem of_constraintlaw49_JustifySplits {vals : List AV} {bs : List Box} {Q : AV → List Box → Prop} (hn : vals.length ≤ 25) (h : (⟨params 0 vals, bs, bs.length⟩ : St).fo true fun s => rc_constraintlaw49_JustifySplits.go Try.prog true s (retN [.slot 4] Q)) : AM.Sem Try.prog 13 vals bs Q :=
  Sem.of (fn := Try.f13) (keeps := [(0, [0, 1]), (1, [0, 1, 6]), (2, [4]), (3, [0, 1, 12]), (4, [4]), (5, [4])]) (solo := []) Try.func13 rfl (by kernel_rfl) (by kernel_rfl) (by kernel_rfl) hn (run_of h)
theorem op_constraintlaw49_JustifySplits {vals : List AV} {bs : List Box} {Q : AV → List Box → Prop} (hn : vals.length ≤ 25) (h : (⟨params 0 vals, bs, bs.length⟩ : St).fo true fun s => rc_constraintlaw49_JustifySplits.gp Try.prog true s (retP [.slot 4] Q)) : AM.Sem Try.prog 13 vals bs Q :=
  Sem.nrm (Sem.of (fn := Try.f13) (keeps := [(0, [0, 1]), (1, [0, 1, 6]), (2, [4]), (3, [0, 1, 12]), (4, [4]), (5, [4])]) (solo := []) Try.func13 rfl (by kernel_rfl) (by kernel_rfl) (by kernel_rfl) hn (run_gp h))

theorem ofS_slices_Grow_int_int {vals : List AV} {bs : List Box} {Q : AV → List Box → Prop} (hn : vals.length ≤ 27) (h : (⟨params 0 vals, bs, bs.length⟩ : St).fo false fun s => rc_slices_Grow_int_int.go Try.prog false s (retN [.slot 4] Q)) : AM.Sem Try.prog 125 vals bs Q :=
  Sem.of (fn := Try.f125) (keeps := [(0, [0, 1]), (1, [0, 1, 6]), (2, [0, 1]), (3, [0, 1]), (4, [0, 1, 16]), (5, [0]), (6, [4]), (1000000, [20, 22]), (1000001, [2])]) (solo := []) Try.func125 rfl (by kernel_rfl) (by kernel_rfl) (by kernel_rfl) hn (run_of h)
theorem opS_slices_Grow_int_int {vals : List AV} {bs : List Box} {Q : AV → List Box → Prop} (hn : vals.length ≤ 27) (h : (⟨params 0 vals, bs, bs.length⟩ : St).fo false fun s => rc_slices_Grow_int_int.gp Try.prog false s (retP [.slot 4] Q)) : AM.Sem Try.prog 125 vals bs Q :=
  Sem.nrm (Sem.of (fn := Try.f125) (keeps := [(0, [0, 1]), (1, [0, 1, 6]), (2, [0, 1]), (3, [0, 1]), (4, [0, 1, 16]), (5, [0]), (6, [4]), (1000000, [20, 22]), (1000001, [2])]) (solo := []) Try.func125 rfl (by kernel_rfl) (by kernel_rfl) (by kernel_rfl) hn (run_gp h))

theorem ofS_slices_Concat_int_int {vals : List AV} {bs : List Box} {Q : AV → List Box → Prop} (hn : vals.length ≤ 36) (h : (⟨params 0 vals, bs, bs.length⟩ : St).fo false fun s => rc_slices_Concat_int_int.go Try.prog false s (retN [.slot 2] Q)) : AM.Sem Try.prog 102 vals bs Q :=
  Sem.of (fn := Try.f102) (keeps := [(0, [0]), (1, [0, 3]), (2, [0, 3, 9, 10, 11]), (3, [0, 3, 9, 10, 11, 12]), (4, [0, 3, 5, 9, 10, 11]), (5, [0, 3, 9, 10, 11]), (6, [0, 3, 9, 10, 11, 20]), (7, [0, 3, 9, 10, 11]), (8, [0, 3, 9, 10, 11]), (9, [0, 6]), (10, [6, 25, 26, 27]), (11, [6, 25, 26, 27, 28]), (12, [6, 8, 25, 26, 27]), (13, [6, 25, 26, 27]), (14, [6, 25, 26, 27]), (15, [2]), (1000000, [33]), (1000001, [7])]) (solo := []) Try.func102 rfl (by kernel_rfl) (by kernel_rfl) (by kernel_rfl) hn (run_of h)
theorem opS_slices_Concat_int_int {vals : List AV} {bs : List Box} {Q : AV → List Box → Prop} (hn : vals.length ≤ 36) (h : (⟨params 0 vals, bs, bs.length⟩ : St).fo false fun s => rc_slices_Concat_int_int.gp Try.prog false s (retP [.slot 2] Q)) : AM.Sem Try.prog 102 vals bs Q :=
  Sem.nrm (Sem.of (fn := Try.f102) (keeps := [(0, [0]), (1, [0, 3]), (2, [0, 3, 9, 10, 11]), (3, [0, 3, 9, 10, 11, 12]), (4, [0, 3, 5, 9, 10, 11]), (5, [0, 3, 9, 10, 11]), (6, [0, 3, 9, 10, 11, 20]), (7, [0, 3, 9, 10, 11]), (8, [0, 3, 9, 10, 11]), (9, [0, 6]), (10, [6, 25, 26, 27]), (11, [6, 25, 26, 27, 28]), (12, [6, 8, 25, 26, 27]), (13, [6, 25, 26, 27]), (14, [6, 25, 26, 27]), (15, [2]), (1000000, [33]), (1000001, [7])]) (solo := []) Try.func102 rfl (by kernel_rfl) (by kernel_rfl) (by kernel_rfl) hn (run_gp h))

theorem ofS_justify_union {vals : List AV} {bs : List Box} {Q : AV → List Box → Prop} (hn : vals.length ≤ 10) (h : (⟨params 0 vals, bs, bs.length⟩ : St).fo false fun s => rc_justify_union.go Try.prog false s (retN [.slot 2] Q)) : AM.Sem Try.prog 81 vals bs Q :=
  Sem.of (fn := Try.f81) (keeps := [(0, [0]), (1, [3]), (2, [3]), (3, [2])]) (solo := []) Try.func81 rfl (by kernel_rfl) (by kernel_rfl) (by kernel_rfl) hn (run_of h)
theorem opS_justify_union {vals : List AV} {bs : List Box} {Q : AV → List Box → Prop} (hn : vals.length ≤ 10) (h : (⟨params 0 vals, bs, bs.length⟩ : St).fo false fun s => rc_justify_union.gp Try.prog false s (retP [.slot 2] Q)) : AM.Sem Try.prog 81 vals bs Q :=
  Sem.nrm (Sem.of (fn := Try.f81) (keeps := [(0, [0]), (1, [3]), (2, [3]), (3, [2])]) (solo := []) Try.func81 rfl (by kernel_rfl) (by kernel_rfl) (by kernel_rfl) hn (run_gp h))

end Go.CK
