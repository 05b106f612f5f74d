/-
  OCCUR: the small code of functions of the program, printed by wip/gen/rc.py, each checked against the program by the kernel. By an AI agent.
-/
import Derived.Test.YtllcnpfdklbbbaaProg
import Derived.Test.YtllcnpfdklbbbaaAmP
namespace Go.CK
open Go.AM Go.Proofs

def rc_occur_count : RC :=
  (.seq
   (.reg false [1] [
     ⟨some 1, none, (.box (.t 0))⟩,
     ⟨some 2, none, (.mov (.c (.int .i64 0)))⟩])
   (.seq
    (.reg false [2] [
      ⟨some 3, none, (.fptr 1 (.t 1))⟩,
      ⟨some 4, none, (.load false 1 (.t 3))⟩,
      ⟨some 5, none, (.len false (.t 4))⟩,
      ⟨some 6, none, (.fptr 2 (.t 1))⟩,
      ⟨some 7, none, (.load false 1 (.t 6))⟩,
      ⟨some 8, none, (.len false (.t 7))⟩,
      ⟨some 9, none, (.bin .add (.t 5) (.t 8))⟩,
      ⟨some 2, none, (.mov (.t 9))⟩])
    .ret))
theorem of_occur_count {vals : List AV} {bs : List Box} {Q : AV → List Box → Prop} (hn : vals.length ≤ 10) (h : (⟨params 0 vals, bs, bs.length⟩ : St).fo true fun s => rc_occur_count.go Try.prog true s (retN [.slot 2] Q)) : AM.Sem Try.prog 39 vals bs Q :=
  Sem.of (fn := Try.f39) (keeps := [(0, [1]), (1, [2])]) (solo := []) Try.func39 rfl (by kernel_rfl) (by kernel_rfl) (by kernel_rfl) hn (run_of h)
theorem op_occur_count {vals : List AV} {bs : List Box} {Q : AV → List Box → Prop} (hn : vals.length ≤ 10) (h : (⟨params 0 vals, bs, bs.length⟩ : St).fo true fun s => rc_occur_count.gp Try.prog true s (retP [.slot 2] Q)) : AM.Sem Try.prog 39 vals bs Q :=
  Sem.nrm (Sem.of (fn := Try.f39) (keeps := [(0, [1]), (1, [2])]) (solo := []) Try.func39 rfl (by kernel_rfl) (by kernel_rfl) (by kernel_rfl) hn (run_gp h))

def rc_occur_Heads : RC :=
  (.seq
   (.reg false [1] [
     ⟨some 1, none, (.box (.t 0))⟩,
     ⟨some 2, none, (.mov (.c (.sl .full [])))⟩])
   (.seq
    (.reg false [1, 3] [
      ⟨some 4, none, (.load true 6 (.t 1))⟩,
      ⟨some 5, none, (.call (.c (.fn (.func 39) [] [])) [(.t 4)])⟩,
      ⟨some 6, none, (.mk 2 (.agg [(.str ⟨⟨[]⟩⟩), (.sl .full [])]) (.c (.int .i64 0)) (.t 5))⟩,
      ⟨some 3, none, (.mov (.t 6))⟩])
    (.seq
     (.reg false [1, 3] [
       ⟨some 7, none, (.mov (.t 3))⟩,
       ⟨some 8, none, (.fptr 1 (.t 1))⟩,
       ⟨some 9, none, (.load false 1 (.t 8))⟩,
       ⟨some 10, none, (.append 2 (.t 7) (.t 9))⟩,
       ⟨some 3, none, (.mov (.t 10))⟩])
     (.seq
      (.reg false [2] [
        ⟨some 11, none, (.mov (.t 3))⟩,
        ⟨some 12, none, (.fptr 2 (.t 1))⟩,
        ⟨some 13, none, (.load false 1 (.t 12))⟩,
        ⟨some 14, none, (.append 2 (.t 11) (.t 13))⟩,
        ⟨some 2, none, (.mov (.t 14))⟩])
      .ret))))
theorem of_occur_Heads {vals : List AV} {bs : List Box} {Q : AV → List Box → Prop} (hn : vals.length ≤ 15) (h : (⟨params 0 vals, bs, bs.length⟩ : St).fo true fun s => rc_occur_Heads.go Try.prog true s (retN [.slot 2] Q)) : AM.Sem Try.prog 14 vals bs Q :=
  Sem.of (fn := Try.f14) (keeps := [(0, [1]), (1, [1, 3]), (2, [1, 3]), (3, [2])]) (solo := []) Try.func14 rfl (by kernel_rfl) (by kernel_rfl) (by kernel_rfl) hn (run_of h)
theorem op_occur_Heads {vals : List AV} {bs : List Box} {Q : AV → List Box → Prop} (hn : vals.length ≤ 15) (h : (⟨params 0 vals, bs, bs.length⟩ : St).fo true fun s => rc_occur_Heads.gp Try.prog true s (retP [.slot 2] Q)) : AM.Sem Try.prog 14 vals bs Q :=
  Sem.nrm (Sem.of (fn := Try.f14) (keeps := [(0, [1]), (1, [1, 3]), (2, [1, 3]), (3, [2])]) (solo := []) Try.func14 rfl (by kernel_rfl) (by kernel_rfl) (by kernel_rfl) hn (run_gp h))

def rc_constraintref16_Heads : RC :=
  (.seq
   (.reg false [1] [
     ⟨some 1, none, (.box (.t 0))⟩,
     ⟨some 2, none, (.mov (.c (.sl .full [])))⟩])
   (.seq
    (.reg false [1, 3] [
      ⟨some 3, none, (.mov (.c (.sl .full [])))⟩])
    (.seq
     (.reg false [1, 3] [
       ⟨some 4, none, (.mov (.t 3))⟩,
       ⟨some 5, none, (.fptr 1 (.t 1))⟩,
       ⟨some 6, none, (.load false 1 (.t 5))⟩,
       ⟨some 7, none, (.append 2 (.t 4) (.t 6))⟩,
       ⟨some 3, none, (.mov (.t 7))⟩])
     (.seq
      (.reg false [2] [
        ⟨some 8, none, (.mov (.t 3))⟩,
        ⟨some 9, none, (.fptr 2 (.t 1))⟩,
        ⟨some 10, none, (.load false 1 (.t 9))⟩,
        ⟨some 11, none, (.append 2 (.t 8) (.t 10))⟩,
        ⟨some 2, none, (.mov (.t 11))⟩])
      .ret))))
theorem of_constraintref16_Heads {vals : List AV} {bs : List Box} {Q : AV → List Box → Prop} (hn : vals.length ≤ 12) (h : (⟨params 0 vals, bs, bs.length⟩ : St).fo true fun s => rc_constraintref16_Heads.go Try.prog true s (retN [.slot 2] Q)) : AM.Sem Try.prog 15 vals bs Q :=
  Sem.of (fn := Try.f15) (keeps := [(0, [1]), (1, [1, 3]), (2, [1, 3]), (3, [2])]) (solo := []) Try.func15 rfl (by kernel_rfl) (by kernel_rfl) (by kernel_rfl) hn (run_of h)
theorem op_constraintref16_Heads {vals : List AV} {bs : List Box} {Q : AV → List Box → Prop} (hn : vals.length ≤ 12) (h : (⟨params 0 vals, bs, bs.length⟩ : St).fo true fun s => rc_constraintref16_Heads.gp Try.prog true s (retP [.slot 2] Q)) : AM.Sem Try.prog 15 vals bs Q :=
  Sem.nrm (Sem.of (fn := Try.f15) (keeps := [(0, [1]), (1, [1, 3]), (2, [1, 3]), (3, [2])]) (solo := []) Try.func15 rfl (by kernel_rfl) (by kernel_rfl) (by kernel_rfl) hn (run_gp h))

def rc_constraintref16_All : RC :=
  (.seq
   (.reg false [1] [
     ⟨some 1, none, (.box (.t 0))⟩,
     ⟨some 2, none, (.mov (.c (.sl .full [])))⟩])
   (.seq
    (.reg false [1, 3] [
      ⟨some 3, none, (.mov (.c (.sl .full [])))⟩])
    (.seq
     (.seq
      (.reg false [1, 3, 4] [
        ⟨some 4, none, (.mov (.c (.int .i64 0)))⟩])
      (.block 0
       (.loop
        (.seq
         (.seq
          (.reg false [1, 3, 4, 11] [
            ⟨some 7, none, (.mov (.t 4))⟩,
            ⟨some 8, none, (.fptr 1 (.t 1))⟩,
            ⟨some 9, none, (.load false 1 (.t 8))⟩,
            ⟨some 10, none, (.len false (.t 9))⟩,
            ⟨some 11, none, (.bin .lss (.t 7) (.t 10))⟩])
          (.cond (.t 11)
           .skip
           (.exit 0)))
         (.seq
          (.block 1
           (.seq
            (.reg false [1, 3, 4, 5] [
              ⟨some 14, none, (.fptr 1 (.t 1))⟩,
              ⟨some 15, none, (.load false 1 (.t 14))⟩,
              ⟨some 16, none, (.mov (.t 4))⟩,
              ⟨some 17, none, (.idx 6 (.t 15) (.t 16))⟩,
              ⟨some 18, none, (.fptr 1 (.t 17))⟩,
              ⟨some 19, none, (.load false 1 (.t 18))⟩,
              ⟨some 20, none, (.len false (.t 19))⟩,
              ⟨some 5, none, (.mov (.t 20))⟩])
            (.seq
             (.reg false [1, 3, 4, 5, 6] [
               ⟨some 21, none, (.mov (.t 5))⟩,
               ⟨some 22, none, (.fptr 1 (.t 1))⟩,
               ⟨some 23, none, (.load false 1 (.t 22))⟩,
               ⟨some 24, none, (.mov (.t 4))⟩,
               ⟨some 25, none, (.idx 6 (.t 23) (.t 24))⟩,
               ⟨some 26, none, (.fptr 2 (.t 25))⟩,
               ⟨some 27, none, (.load false 1 (.t 26))⟩,
               ⟨some 28, none, (.len false (.t 27))⟩,
               ⟨some 29, none, (.bin .add (.t 21) (.t 28))⟩,
               ⟨some 30, none, (.bin .sub (.t 29) (.c (.int .i64 1)))⟩,
               ⟨some 6, none, (.mov (.t 30))⟩])
             (.block 2
              (.loop
               (.seq
                (.seq
                 (.reg false [1, 3, 4, 5, 6, 32] [
                   ⟨some 31, none, (.mov (.t 6))⟩,
                   ⟨some 32, none, (.bin .geq (.t 31) (.c (.int .i64 0)))⟩])
                 (.cond (.t 32)
                  .skip
                  (.exit 2)))
                (.seq
                 (.block 3
                  (.reg false [1, 3, 4, 5, 6] [
                    ⟨some 35, none, (.mov (.t 3))⟩,
                    ⟨some 36, none, (.mov (.t 4))⟩,
                    ⟨some 37, none, (.mov (.t 6))⟩,
                    ⟨some 38, none, (.mov (.t 6))⟩,
                    ⟨some 39, none, (.mov (.t 5))⟩,
                    ⟨some 40, none, (.bin .lss (.t 38) (.t 39))⟩,
                    ⟨some 41, none, (.build [(.int .i64 0), (.int .i64 0), (.bool false)] [(0, 1, (.t 36)), (1, 1, (.t 37)), (2, 1, (.t 40))])⟩,
                    ⟨some 42, none, (.bslice 3 [(.t 41)])⟩,
                    ⟨some 43, none, (.append 3 (.t 35) (.t 42))⟩,
                    ⟨some 3, none, (.mov (.t 43))⟩]))
                 (.reg false [1, 3, 4, 5, 6] [
                   ⟨some 33, none, (.mov (.t 6))⟩,
                   ⟨some 34, none, (.bin .sub (.t 33) (.c (.int .i64 1)))⟩,
                   ⟨some 6, none, (.mov (.t 34))⟩]))))))))
          (.reg false [1, 3, 4] [
            ⟨some 12, none, (.mov (.t 4))⟩,
            ⟨some 13, none, (.bin .add (.t 12) (.c (.int .i64 1)))⟩,
            ⟨some 4, none, (.mov (.t 13))⟩]))))))
     (.seq
      (.reg false [2] [
        ⟨some 44, none, (.mov (.t 3))⟩,
        ⟨some 2, none, (.mov (.t 44))⟩])
      .ret))))
theorem of_constraintref16_All {vals : List AV} {bs : List Box} {Q : AV → List Box → Prop} (hn : vals.length ≤ 45) (h : (⟨params 0 vals, bs, bs.length⟩ : St).fo true fun s => rc_constraintref16_All.go Try.prog true s (retN [.slot 2] Q)) : AM.Sem Try.prog 22 vals bs Q :=
  Sem.of (fn := Try.f22) (keeps := [(0, [1]), (1, [1, 3]), (2, [1, 3, 4]), (3, [1, 3, 4, 11]), (5, [1, 3, 4, 5]), (6, [1, 3, 4, 5, 6]), (7, [1, 3, 4, 5, 6, 32]), (9, [1, 3, 4, 5, 6]), (8, [1, 3, 4, 5, 6]), (4, [1, 3, 4]), (10, [2])]) (solo := []) Try.func22 rfl (by kernel_rfl) (by kernel_rfl) (by kernel_rfl) hn (run_of h)
theorem op_constraintref16_All {vals : List AV} {bs : List Box} {Q : AV → List Box → Prop} (hn : vals.length ≤ 45) (h : (⟨params 0 vals, bs, bs.length⟩ : St).fo true fun s => rc_constraintref16_All.gp Try.prog true s (retP [.slot 2] Q)) : AM.Sem Try.prog 22 vals bs Q :=
  Sem.nrm (Sem.of (fn := Try.f22) (keeps := [(0, [1]), (1, [1, 3]), (2, [1, 3, 4]), (3, [1, 3, 4, 11]), (5, [1, 3, 4, 5]), (6, [1, 3, 4, 5, 6]), (7, [1, 3, 4, 5, 6, 32]), (9, [1, 3, 4, 5, 6]), (8, [1, 3, 4, 5, 6]), (4, [1, 3, 4]), (10, [2])]) (solo := []) Try.func22 rfl (by kernel_rfl) (by kernel_rfl) (by kernel_rfl) hn (run_gp h))

def rc_constraintref16_Of : RC :=
  (.seq
   (.reg false [1, 2, 3] [
     ⟨some 3, none, (.box (.t 0))⟩,
     ⟨some 6, none, (.mov (.c (.sl .full [])))⟩])
   (.seq
    (.reg false [1, 2, 3, 7] [
      ⟨some 7, none, (.mov (.c (.sl .full [])))⟩])
    (.seq
     (.reg false [1, 2, 3, 7, 8] [
       ⟨some 11, none, (.load true 2 (.t 3))⟩,
       ⟨some 12, none, (.call (.c (.fn (.func 22) [] [])) [(.t 11)])⟩,
       ⟨some 8, none, (.mov (.t 12))⟩])
     (.seq
      (.seq
       (.reg false [1, 2, 3, 7, 8, 9] [
         ⟨some 9, none, (.mov (.c (.int .i64 0)))⟩])
       (.block 0
        (.loop
         (.seq
          (.seq
           (.reg false [1, 2, 3, 7, 8, 9, 16] [
             ⟨some 13, none, (.mov (.t 9))⟩,
             ⟨some 14, none, (.mov (.t 8))⟩,
             ⟨some 15, none, (.len false (.t 14))⟩,
             ⟨some 16, none, (.bin .lss (.t 13) (.t 15))⟩])
           (.cond (.t 16)
            .skip
            (.exit 0)))
          (.seq
           (.block 1
            (.seq
             (.reg true [1, 2, 3, 7, 8, 9, 10] [
               ⟨some 19, none, (.fptr 1 (.t 3))⟩,
               ⟨some 20, none, (.load false 1 (.t 19))⟩,
               ⟨some 21, none, (.mov (.t 8))⟩,
               ⟨some 22, none, (.mov (.t 9))⟩,
               ⟨some 23, none, (.idx 3 (.t 21) (.t 22))⟩,
               ⟨some 24, none, (.fptr 0 (.t 23))⟩,
               ⟨some 25, none, (.load false 1 (.t 24))⟩,
               ⟨some 26, none, (.idx 6 (.t 20) (.t 25))⟩,
               ⟨some 27, none, (.load true 6 (.t 26))⟩,
               ⟨some 28, none, (.call (.c (.fn (.func 15) [] [])) [(.t 27)])⟩,
               ⟨some 29, none, (.mov (.t 8))⟩,
               ⟨some 30, none, (.mov (.t 9))⟩,
               ⟨some 31, none, (.idx 3 (.t 29) (.t 30))⟩,
               ⟨some 32, none, (.fptr 1 (.t 31))⟩,
               ⟨some 33, none, (.load false 1 (.t 32))⟩,
               ⟨some 34, none, (.idx 2 (.t 28) (.t 33))⟩,
               ⟨some 35, none, (.load true 2 (.t 34))⟩,
               ⟨some 10, none, (.box (.c (.agg [(.str ⟨⟨[]⟩⟩), (.sl .full [])])))⟩,
               ⟨none, none, (.store 2 (.t 10) (.t 35))⟩])
             (.seq
              (.reg false [1, 2, 3, 7, 8, 9, 46] [
                ⟨some 36, none, (.fptr 0 (.t 10))⟩,
                ⟨some 37, none, (.load false 1 (.t 36))⟩,
                ⟨some 38, none, (.mov (.t 1))⟩,
                ⟨some 39, none, (.bin .eql (.t 37) (.t 38))⟩,
                ⟨some 40, none, (.mov (.t 39))⟩,
                ⟨some 41, some (40, true), (.fptr 1 (.t 10))⟩,
                ⟨some 42, some (40, true), (.load false 1 (.t 41))⟩,
                ⟨some 43, some (40, true), (.len false (.t 42))⟩,
                ⟨some 44, some (40, true), (.mov (.t 2))⟩,
                ⟨some 45, some (40, true), (.bin .eql (.t 43) (.t 44))⟩,
                ⟨some 46, none, (.pick (.t 40) (.t 45) (.c (.bool false)))⟩])
              (.cond (.t 46)
               (.reg false [1, 2, 3, 7, 8, 9] [
                 ⟨some 47, none, (.mov (.t 7))⟩,
                 ⟨some 48, none, (.mov (.t 8))⟩,
                 ⟨some 49, none, (.mov (.t 9))⟩,
                 ⟨some 50, none, (.idx 3 (.t 48) (.t 49))⟩,
                 ⟨some 51, none, (.load true 3 (.t 50))⟩,
                 ⟨some 52, none, (.bslice 3 [(.t 51)])⟩,
                 ⟨some 53, none, (.append 3 (.t 47) (.t 52))⟩,
                 ⟨some 7, none, (.mov (.t 53))⟩])
               .skip))))
           (.reg false [1, 2, 3, 7, 8, 9] [
             ⟨some 17, none, (.mov (.t 9))⟩,
             ⟨some 18, none, (.bin .add (.t 17) (.c (.int .i64 1)))⟩,
             ⟨some 9, none, (.mov (.t 18))⟩]))))))
      (.seq
       (.reg false [6] [
         ⟨some 54, none, (.mov (.t 7))⟩,
         ⟨some 6, none, (.mov (.t 54))⟩])
       .ret)))))
theorem of_constraintref16_Of {vals : List AV} {bs : List Box} {Q : AV → List Box → Prop} (hn : vals.length ≤ 55) (h : (⟨params 0 vals, bs, bs.length⟩ : St).fo true fun s => rc_constraintref16_Of.go Try.prog true s (retN [.slot 6] Q)) : AM.Sem Try.prog 24 vals bs Q :=
  Sem.of (fn := Try.f24) (keeps := [(0, [1, 2, 3]), (1, [1, 2, 3, 7]), (2, [1, 2, 3, 7, 8]), (3, [1, 2, 3, 7, 8, 9]), (4, [1, 2, 3, 7, 8, 9, 16]), (6, [1, 2, 3, 7, 8, 9, 10]), (7, [1, 2, 3, 7, 8, 9, 46]), (8, [1, 2, 3, 7, 8, 9]), (5, [1, 2, 3, 7, 8, 9]), (9, [6])]) (solo := []) Try.func24 rfl (by kernel_rfl) (by kernel_rfl) (by kernel_rfl) hn (run_of h)
theorem op_constraintref16_Of {vals : List AV} {bs : List Box} {Q : AV → List Box → Prop} (hn : vals.length ≤ 55) (h : (⟨params 0 vals, bs, bs.length⟩ : St).fo true fun s => rc_constraintref16_Of.gp Try.prog true s (retP [.slot 6] Q)) : AM.Sem Try.prog 24 vals bs Q :=
  Sem.nrm (Sem.of (fn := Try.f24) (keeps := [(0, [1, 2, 3]), (1, [1, 2, 3, 7]), (2, [1, 2, 3, 7, 8]), (3, [1, 2, 3, 7, 8, 9]), (4, [1, 2, 3, 7, 8, 9, 16]), (6, [1, 2, 3, 7, 8, 9, 10]), (7, [1, 2, 3, 7, 8, 9, 46]), (8, [1, 2, 3, 7, 8, 9]), (5, [1, 2, 3, 7, 8, 9]), (9, [6])]) (solo := []) Try.func24 rfl (by kernel_rfl) (by kernel_rfl) (by kernel_rfl) hn (run_gp h))

def rc_constraintref16_Partners : RC :=
  (.seq
   (.reg false [2, 3] [
     ⟨some 2, none, (.box (.t 0))⟩,
     ⟨some 3, none, (.box (.t 1))⟩,
     ⟨some 4, none, (.mov (.c (.sl .full [])))⟩])
   (.seq
    (.seq
     (.reg false [2, 3, 18] [
       ⟨some 8, none, (.fptr 0 (.t 3))⟩,
       ⟨some 9, none, (.load false 1 (.t 8))⟩,
       ⟨some 10, none, (.bin .lss (.t 9) (.c (.int .i64 0)))⟩,
       ⟨some 11, none, (.mov (.t 10))⟩,
       ⟨some 12, some (11, false), (.fptr 0 (.t 3))⟩,
       ⟨some 13, some (11, false), (.load false 1 (.t 12))⟩,
       ⟨some 14, some (11, false), (.fptr 1 (.t 2))⟩,
       ⟨some 15, some (11, false), (.load false 1 (.t 14))⟩,
       ⟨some 16, some (11, false), (.len false (.t 15))⟩,
       ⟨some 17, some (11, false), (.bin .geq (.t 13) (.t 16))⟩,
       ⟨some 18, none, (.pick (.t 11) (.c (.bool true)) (.t 17))⟩])
     (.cond (.t 18)
      (.seq
       (.reg false [4] [
         ⟨some 4, none, (.mov (.c (.sl .full [])))⟩])
       .ret)
      .skip))
    (.seq
     (.reg true [3, 5] [
       ⟨some 19, none, (.fptr 1 (.t 2))⟩,
       ⟨some 20, none, (.load false 1 (.t 19))⟩,
       ⟨some 21, none, (.fptr 0 (.t 3))⟩,
       ⟨some 22, none, (.load false 1 (.t 21))⟩,
       ⟨some 23, none, (.idx 6 (.t 20) (.t 22))⟩,
       ⟨some 24, none, (.fptr 1 (.t 23))⟩,
       ⟨some 25, none, (.load false 1 (.t 24))⟩,
       ⟨some 26, none, (.len false (.t 25))⟩,
       ⟨some 27, none, (.fptr 1 (.t 2))⟩,
       ⟨some 28, none, (.load false 1 (.t 27))⟩,
       ⟨some 29, none, (.fptr 0 (.t 3))⟩,
       ⟨some 30, none, (.load false 1 (.t 29))⟩,
       ⟨some 31, none, (.idx 6 (.t 28) (.t 30))⟩,
       ⟨some 32, none, (.fptr 2 (.t 31))⟩,
       ⟨some 33, none, (.load false 1 (.t 32))⟩,
       ⟨some 34, none, (.len false (.t 33))⟩,
       ⟨some 35, none, (.bin .add (.t 26) (.t 34))⟩,
       ⟨some 5, none, (.take 35)⟩])
     (.seq
      (.seq
       (.reg false [3, 5, 44] [
         ⟨some 36, none, (.fptr 1 (.t 3))⟩,
         ⟨some 37, none, (.load false 1 (.t 36))⟩,
         ⟨some 38, none, (.bin .lss (.t 37) (.c (.int .i64 0)))⟩,
         ⟨some 39, none, (.mov (.t 38))⟩,
         ⟨some 40, some (39, false), (.fptr 1 (.t 3))⟩,
         ⟨some 41, some (39, false), (.load false 1 (.t 40))⟩,
         ⟨some 42, some (39, false), (.mov (.t 5))⟩,
         ⟨some 43, some (39, false), (.bin .geq (.t 41) (.t 42))⟩,
         ⟨some 44, none, (.pick (.t 39) (.c (.bool true)) (.t 43))⟩])
       (.cond (.t 44)
        (.seq
         (.reg false [4] [
           ⟨some 4, none, (.mov (.c (.sl .full [])))⟩])
         .ret)
        .skip))
      (.seq
       (.reg false [3, 5, 6] [
         ⟨some 6, none, (.mov (.c (.sl .full [])))⟩])
       (.seq
        (.seq
         (.reg false [3, 5, 6, 7] [
           ⟨some 7, none, (.mov (.c (.int .i64 0)))⟩])
         (.block 0
          (.loop
           (.seq
            (.seq
             (.reg false [3, 5, 6, 7, 47] [
               ⟨some 45, none, (.mov (.t 7))⟩,
               ⟨some 46, none, (.mov (.t 5))⟩,
               ⟨some 47, none, (.bin .lss (.t 45) (.t 46))⟩])
             (.cond (.t 47)
              .skip
              (.exit 0)))
            (.seq
             (.block 1
              (.seq
               (.reg false [3, 5, 6, 7, 53] [
                 ⟨some 50, none, (.mov (.t 7))⟩,
                 ⟨some 51, none, (.fptr 1 (.t 3))⟩,
                 ⟨some 52, none, (.load false 1 (.t 51))⟩,
                 ⟨some 53, none, (.bin .neq (.t 50) (.t 52))⟩])
               (.cond (.t 53)
                (.reg false [3, 5, 6, 7] [
                  ⟨some 54, none, (.mov (.t 6))⟩,
                  ⟨some 55, none, (.mov (.t 7))⟩,
                  ⟨some 56, none, (.bslice 1 [(.t 55)])⟩,
                  ⟨some 57, none, (.append 1 (.t 54) (.t 56))⟩,
                  ⟨some 6, none, (.mov (.t 57))⟩])
                .skip)))
             (.reg false [3, 5, 6, 7] [
               ⟨some 48, none, (.mov (.t 7))⟩,
               ⟨some 49, none, (.bin .add (.t 48) (.c (.int .i64 1)))⟩,
               ⟨some 7, none, (.mov (.t 49))⟩]))))))
        (.seq
         (.reg false [4] [
           ⟨some 58, none, (.mov (.t 6))⟩,
           ⟨some 4, none, (.mov (.t 58))⟩])
         .ret)))))))
theorem of_constraintref16_Partners {vals : List AV} {bs : List Box} {Q : AV → List Box → Prop} (hn : vals.length ≤ 59) (h : (⟨params 0 vals, bs, bs.length⟩ : St).fo true fun s => rc_constraintref16_Partners.go Try.prog true s (retN [.slot 4] Q)) : AM.Sem Try.prog 27 vals bs Q :=
  Sem.of (fn := Try.f27) (keeps := [(0, [2, 3]), (1, [2, 3, 18]), (2, [4]), (3, [3, 5]), (4, [3, 5, 44]), (5, [4]), (6, [3, 5, 6]), (7, [3, 5, 6, 7]), (8, [3, 5, 6, 7, 47]), (10, [3, 5, 6, 7, 53]), (11, [3, 5, 6, 7]), (9, [3, 5, 6, 7]), (12, [4])]) (solo := []) Try.func27 rfl (by kernel_rfl) (by kernel_rfl) (by kernel_rfl) hn (run_of h)
theorem op_constraintref16_Partners {vals : List AV} {bs : List Box} {Q : AV → List Box → Prop} (hn : vals.length ≤ 59) (h : (⟨params 0 vals, bs, bs.length⟩ : St).fo true fun s => rc_constraintref16_Partners.gp Try.prog true s (retP [.slot 4] Q)) : AM.Sem Try.prog 27 vals bs Q :=
  Sem.nrm (Sem.of (fn := Try.f27) (keeps := [(0, [2, 3]), (1, [2, 3, 18]), (2, [4]), (3, [3, 5]), (4, [3, 5, 44]), (5, [4]), (6, [3, 5, 6]), (7, [3, 5, 6, 7]), (8, [3, 5, 6, 7, 47]), (10, [3, 5, 6, 7, 53]), (11, [3, 5, 6, 7]), (9, [3, 5, 6, 7]), (12, [4])]) (solo := []) Try.func27 rfl (by kernel_rfl) (by kernel_rfl) (by kernel_rfl) hn (run_gp h))

def rc_constraintref16_Propagation : RC :=
  (.seq
   (.reg false [1] [
     ⟨some 1, none, (.box (.t 0))⟩,
     ⟨some 2, none, (.mov (.c (.bool false)))⟩])
   (.seq
    (.reg false [2] [
      ⟨some 3, none, (.fptr 2 (.t 1))⟩,
      ⟨some 4, none, (.load false 1 (.t 3))⟩,
      ⟨some 5, none, (.len false (.t 4))⟩,
      ⟨some 6, none, (.bin .eql (.t 5) (.c (.int .i64 0)))⟩,
      ⟨some 2, none, (.mov (.t 6))⟩])
    .ret))
theorem of_constraintref16_Propagation {vals : List AV} {bs : List Box} {Q : AV → List Box → Prop} (hn : vals.length ≤ 7) (h : (⟨params 0 vals, bs, bs.length⟩ : St).fo true fun s => rc_constraintref16_Propagation.go Try.prog true s (retN [.slot 2] Q)) : AM.Sem Try.prog 17 vals bs Q :=
  Sem.of (fn := Try.f17) (keeps := [(0, [1]), (1, [2])]) (solo := []) Try.func17 rfl (by kernel_rfl) (by kernel_rfl) (by kernel_rfl) hn (run_of h)
theorem op_constraintref16_Propagation {vals : List AV} {bs : List Box} {Q : AV → List Box → Prop} (hn : vals.length ≤ 7) (h : (⟨params 0 vals, bs, bs.length⟩ : St).fo true fun s => rc_constraintref16_Propagation.gp Try.prog true s (retP [.slot 2] Q)) : AM.Sem Try.prog 17 vals bs Q :=
  Sem.nrm (Sem.of (fn := Try.f17) (keeps := [(0, [1]), (1, [2])]) (solo := []) Try.func17 rfl (by kernel_rfl) (by kernel_rfl) (by kernel_rfl) hn (run_gp h))

def rc_occur_Partners : RC :=
  (.seq
   (.reg false [2, 3] [
     ⟨some 2, none, (.box (.t 0))⟩,
     ⟨some 3, none, (.box (.t 1))⟩,
     ⟨some 4, none, (.mov (.c (.sl .full [])))⟩])
   (.seq
    (.seq
     (.reg false [2, 3, 18] [
       ⟨some 8, none, (.fptr 0 (.t 3))⟩,
       ⟨some 9, none, (.load false 1 (.t 8))⟩,
       ⟨some 10, none, (.bin .lss (.t 9) (.c (.int .i64 0)))⟩,
       ⟨some 11, none, (.mov (.t 10))⟩,
       ⟨some 12, some (11, false), (.fptr 0 (.t 3))⟩,
       ⟨some 13, some (11, false), (.load false 1 (.t 12))⟩,
       ⟨some 14, some (11, false), (.fptr 1 (.t 2))⟩,
       ⟨some 15, some (11, false), (.load false 1 (.t 14))⟩,
       ⟨some 16, some (11, false), (.len false (.t 15))⟩,
       ⟨some 17, some (11, false), (.bin .geq (.t 13) (.t 16))⟩,
       ⟨some 18, none, (.pick (.t 11) (.c (.bool true)) (.t 17))⟩])
     (.cond (.t 18)
      (.seq
       (.reg false [4] [
         ⟨some 4, none, (.mov (.c (.sl .full [])))⟩])
       .ret)
      .skip))
    (.seq
     (.reg false [3, 5] [
       ⟨some 19, none, (.fptr 1 (.t 2))⟩,
       ⟨some 20, none, (.load false 1 (.t 19))⟩,
       ⟨some 21, none, (.fptr 0 (.t 3))⟩,
       ⟨some 22, none, (.load false 1 (.t 21))⟩,
       ⟨some 23, none, (.idx 6 (.t 20) (.t 22))⟩,
       ⟨some 24, none, (.load true 6 (.t 23))⟩,
       ⟨some 25, none, (.call (.c (.fn (.func 39) [] [])) [(.t 24)])⟩,
       ⟨some 5, none, (.mov (.t 25))⟩])
     (.seq
      (.seq
       (.reg false [3, 5, 34] [
         ⟨some 26, none, (.fptr 1 (.t 3))⟩,
         ⟨some 27, none, (.load false 1 (.t 26))⟩,
         ⟨some 28, none, (.bin .lss (.t 27) (.c (.int .i64 0)))⟩,
         ⟨some 29, none, (.mov (.t 28))⟩,
         ⟨some 30, some (29, false), (.fptr 1 (.t 3))⟩,
         ⟨some 31, some (29, false), (.load false 1 (.t 30))⟩,
         ⟨some 32, some (29, false), (.mov (.t 5))⟩,
         ⟨some 33, some (29, false), (.bin .geq (.t 31) (.t 32))⟩,
         ⟨some 34, none, (.pick (.t 29) (.c (.bool true)) (.t 33))⟩])
       (.cond (.t 34)
        (.seq
         (.reg false [4] [
           ⟨some 4, none, (.mov (.c (.sl .full [])))⟩])
         .ret)
        .skip))
      (.seq
       (.reg false [3, 5, 6] [
         ⟨some 35, none, (.mov (.t 5))⟩,
         ⟨some 36, none, (.bin .sub (.t 35) (.c (.int .i64 1)))⟩,
         ⟨some 37, none, (.mk 1 (.int .i64 0) (.c (.int .i64 0)) (.t 36))⟩,
         ⟨some 6, none, (.mov (.t 37))⟩])
       (.seq
        (.seq
         (.reg false [3, 6, 38, 39] [
           ⟨some 38, none, (.mov (.t 5))⟩,
           ⟨some 39, none, (.mov (.c (.int .i64 0)))⟩])
         (.block 0
          (.loop
           (.seq
            (.reg false [3, 6, 38, 39, 40] [
              ⟨some 40, none, (.bin .lss (.t 39) (.t 38))⟩])
            (.seq
             (.cond (.t 40)
              .skip
              (.exit 0))
             (.seq
              (.block 1
               (.seq
                (.reg false [3, 6, 7, 38, 39] [
                  ⟨some 41, none, (.mov (.t 39))⟩,
                  ⟨some 7, none, (.mov (.t 41))⟩])
                (.seq
                 (.reg false [3, 6, 7, 38, 39, 45] [
                   ⟨some 42, none, (.mov (.t 7))⟩,
                   ⟨some 43, none, (.fptr 1 (.t 3))⟩,
                   ⟨some 44, none, (.load false 1 (.t 43))⟩,
                   ⟨some 45, none, (.bin .neq (.t 42) (.t 44))⟩])
                 (.cond (.t 45)
                  (.reg false [3, 6, 38, 39] [
                    ⟨some 46, none, (.mov (.t 6))⟩,
                    ⟨some 47, none, (.mov (.t 7))⟩,
                    ⟨some 48, none, (.bslice 1 [(.t 47)])⟩,
                    ⟨some 49, none, (.append 1 (.t 46) (.t 48))⟩,
                    ⟨some 6, none, (.mov (.t 49))⟩])
                  .skip))))
              (.reg false [3, 6, 38, 39] [
                ⟨some 50, none, (.bin .add (.t 39) (.c (.int .i64 1)))⟩,
                ⟨some 39, none, (.mov (.t 50))⟩])))))))
        (.seq
         (.reg false [4] [
           ⟨some 51, none, (.mov (.t 6))⟩,
           ⟨some 4, none, (.mov (.t 51))⟩])
         .ret)))))))
theorem of_occur_Partners {vals : List AV} {bs : List Box} {Q : AV → List Box → Prop} (hn : vals.length ≤ 52) (h : (⟨params 0 vals, bs, bs.length⟩ : St).fo true fun s => rc_occur_Partners.go Try.prog true s (retN [.slot 4] Q)) : AM.Sem Try.prog 26 vals bs Q :=
  Sem.of (fn := Try.f26) (keeps := [(0, [2, 3]), (1, [2, 3, 18]), (2, [4]), (3, [3, 5]), (4, [3, 5, 34]), (5, [4]), (6, [3, 5, 6]), (7, [3, 6, 38, 39]), (8, [3, 6, 38, 39, 40]), (9, [3, 6, 7, 38, 39]), (10, [3, 6, 7, 38, 39, 45]), (11, [3, 6, 38, 39]), (12, [3, 6, 38, 39]), (13, [4])]) (solo := []) Try.func26 rfl (by kernel_rfl) (by kernel_rfl) (by kernel_rfl) hn (run_of h)
theorem op_occur_Partners {vals : List AV} {bs : List Box} {Q : AV → List Box → Prop} (hn : vals.length ≤ 52) (h : (⟨params 0 vals, bs, bs.length⟩ : St).fo true fun s => rc_occur_Partners.gp Try.prog true s (retP [.slot 4] Q)) : AM.Sem Try.prog 26 vals bs Q :=
  Sem.nrm (Sem.of (fn := Try.f26) (keeps := [(0, [2, 3]), (1, [2, 3, 18]), (2, [4]), (3, [3, 5]), (4, [3, 5, 34]), (5, [4]), (6, [3, 5, 6]), (7, [3, 6, 38, 39]), (8, [3, 6, 38, 39, 40]), (9, [3, 6, 7, 38, 39]), (10, [3, 6, 7, 38, 39, 45]), (11, [3, 6, 38, 39]), (12, [3, 6, 38, 39]), (13, [4])]) (solo := []) Try.func26 rfl (by kernel_rfl) (by kernel_rfl) (by kernel_rfl) hn (run_gp h))

def rc_occur_Propagation : RC :=
  (.seq
   (.reg false [1] [
     ⟨some 1, none, (.box (.t 0))⟩,
     ⟨some 2, none, (.mov (.c (.bool false)))⟩])
   (.seq
    (.reg false [2] [
      ⟨some 3, none, (.fptr 2 (.t 1))⟩,
      ⟨some 4, none, (.load false 1 (.t 3))⟩,
      ⟨some 5, none, (.len false (.t 4))⟩,
      ⟨some 6, none, (.bin .eql (.t 5) (.c (.int .i64 0)))⟩,
      ⟨some 2, none, (.mov (.t 6))⟩])
    .ret))
theorem of_occur_Propagation {vals : List AV} {bs : List Box} {Q : AV → List Box → Prop} (hn : vals.length ≤ 7) (h : (⟨params 0 vals, bs, bs.length⟩ : St).fo true fun s => rc_occur_Propagation.go Try.prog true s (retN [.slot 2] Q)) : AM.Sem Try.prog 16 vals bs Q :=
  Sem.of (fn := Try.f16) (keeps := [(0, [1]), (1, [2])]) (solo := []) Try.func16 rfl (by kernel_rfl) (by kernel_rfl) (by kernel_rfl) hn (run_of h)
theorem op_occur_Propagation {vals : List AV} {bs : List Box} {Q : AV → List Box → Prop} (hn : vals.length ≤ 7) (h : (⟨params 0 vals, bs, bs.length⟩ : St).fo true fun s => rc_occur_Propagation.gp Try.prog true s (retP [.slot 2] Q)) : AM.Sem Try.prog 16 vals bs Q :=
  Sem.nrm (Sem.of (fn := Try.f16) (keeps := [(0, [1]), (1, [2])]) (solo := []) Try.func16 rfl (by kernel_rfl) (by kernel_rfl) (by kernel_rfl) hn (run_gp h))

def rc_constraintlaw16_Few : RC :=
  (.seq
   (.reg false [1] [
     ⟨some 1, none, (.box (.t 0))⟩,
     ⟨some 2, none, (.mov (.c (.bool false)))⟩])
   (.seq
    (.seq
     (.reg false [1, 7] [
       ⟨some 4, none, (.fptr 1 (.t 1))⟩,
       ⟨some 5, none, (.load false 1 (.t 4))⟩,
       ⟨some 6, none, (.len false (.t 5))⟩,
       ⟨some 7, none, (.bin .gtr (.t 6) (.c (.int .i64 60)))⟩])
     (.cond (.t 7)
      (.seq
       (.reg false [2] [
         ⟨some 2, none, (.mov (.c (.bool false)))⟩])
       .ret)
      .skip))
    (.seq
     (.seq
      (.reg false [1, 10, 11] [
        ⟨some 8, none, (.fptr 1 (.t 1))⟩,
        ⟨some 9, none, (.load false 1 (.t 8))⟩,
        ⟨some 10, none, (.len false (.t 9))⟩,
        ⟨some 11, none, (.mov (.c (.int .i64 0)))⟩])
      (.block 0
       (.loop
        (.seq
         (.reg false [1, 10, 11, 12] [
           ⟨some 12, none, (.bin .lss (.t 11) (.t 10))⟩])
         (.seq
          (.cond (.t 12)
           .skip
           (.exit 0))
          (.seq
           (.block 1
            (.seq
             (.reg false [1, 3, 10, 11] [
               ⟨some 13, none, (.mov (.t 11))⟩,
               ⟨some 3, none, (.mov (.t 13))⟩])
             (.seq
              (.reg false [1, 10, 11, 31] [
                ⟨some 14, none, (.fptr 1 (.t 1))⟩,
                ⟨some 15, none, (.load false 1 (.t 14))⟩,
                ⟨some 16, none, (.mov (.t 3))⟩,
                ⟨some 17, none, (.idx 6 (.t 15) (.t 16))⟩,
                ⟨some 18, none, (.fptr 1 (.t 17))⟩,
                ⟨some 19, none, (.load false 1 (.t 18))⟩,
                ⟨some 20, none, (.len false (.t 19))⟩,
                ⟨some 21, none, (.bin .gtr (.t 20) (.c (.int .i64 10)))⟩,
                ⟨some 22, none, (.mov (.t 21))⟩,
                ⟨some 23, some (22, false), (.fptr 1 (.t 1))⟩,
                ⟨some 24, some (22, false), (.load false 1 (.t 23))⟩,
                ⟨some 25, some (22, false), (.mov (.t 3))⟩,
                ⟨some 26, some (22, false), (.idx 6 (.t 24) (.t 25))⟩,
                ⟨some 27, some (22, false), (.fptr 2 (.t 26))⟩,
                ⟨some 28, some (22, false), (.load false 1 (.t 27))⟩,
                ⟨some 29, some (22, false), (.len false (.t 28))⟩,
                ⟨some 30, some (22, false), (.bin .gtr (.t 29) (.c (.int .i64 10)))⟩,
                ⟨some 31, none, (.pick (.t 22) (.c (.bool true)) (.t 30))⟩])
              (.cond (.t 31)
               (.seq
                (.reg false [2] [
                  ⟨some 2, none, (.mov (.c (.bool false)))⟩])
                .ret)
               .skip))))
           (.reg false [1, 10, 11] [
             ⟨some 32, none, (.bin .add (.t 11) (.c (.int .i64 1)))⟩,
             ⟨some 11, none, (.mov (.t 32))⟩])))))))
     (.seq
      (.reg false [2] [
        ⟨some 2, none, (.mov (.c (.bool true)))⟩])
      .ret))))
theorem of_constraintlaw16_Few {vals : List AV} {bs : List Box} {Q : AV → List Box → Prop} (hn : vals.length ≤ 33) (h : (⟨params 0 vals, bs, bs.length⟩ : St).fo true fun s => rc_constraintlaw16_Few.go Try.prog true s (retN [.slot 2] Q)) : AM.Sem Try.prog 12 vals bs Q :=
  Sem.of (fn := Try.f12) (keeps := [(0, [1]), (1, [1, 7]), (2, [2]), (3, [1, 10, 11]), (4, [1, 10, 11, 12]), (5, [1, 3, 10, 11]), (6, [1, 10, 11, 31]), (7, [2]), (8, [1, 10, 11]), (9, [2])]) (solo := []) Try.func12 rfl (by kernel_rfl) (by kernel_rfl) (by kernel_rfl) hn (run_of h)
theorem op_constraintlaw16_Few {vals : List AV} {bs : List Box} {Q : AV → List Box → Prop} (hn : vals.length ≤ 33) (h : (⟨params 0 vals, bs, bs.length⟩ : St).fo true fun s => rc_constraintlaw16_Few.gp Try.prog true s (retP [.slot 2] Q)) : AM.Sem Try.prog 12 vals bs Q :=
  Sem.nrm (Sem.of (fn := Try.f12) (keeps := [(0, [1]), (1, [1, 7]), (2, [2]), (3, [1, 10, 11]), (4, [1, 10, 11, 12]), (5, [1, 3, 10, 11]), (6, [1, 10, 11, 31]), (7, [2]), (8, [1, 10, 11]), (9, [2])]) (solo := []) Try.func12 rfl (by kernel_rfl) (by kernel_rfl) (by kernel_rfl) hn (run_gp h))

def rc_constraintlaw16_same : RC :=
  (.seq
   (.reg false [0, 1] [
     ⟨some 4, none, (.mov (.c (.bool false)))⟩])
   (.seq
    (.seq
     (.reg false [0, 1, 10] [
       ⟨some 6, none, (.mov (.t 0))⟩,
       ⟨some 7, none, (.len false (.t 6))⟩,
       ⟨some 8, none, (.mov (.t 1))⟩,
       ⟨some 9, none, (.len false (.t 8))⟩,
       ⟨some 10, none, (.bin .neq (.t 7) (.t 9))⟩])
     (.cond (.t 10)
      (.seq
       (.reg false [4] [
         ⟨some 4, none, (.mov (.c (.bool false)))⟩])
       .ret)
      .skip))
    (.seq
     (.seq
      (.reg false [0, 1, 12, 13] [
        ⟨some 11, none, (.mov (.t 0))⟩,
        ⟨some 12, none, (.len false (.t 11))⟩,
        ⟨some 13, none, (.mov (.c (.int .i64 0)))⟩])
      (.block 0
       (.loop
        (.seq
         (.reg false [0, 1, 12, 13, 14] [
           ⟨some 14, none, (.bin .lss (.t 13) (.t 12))⟩])
         (.seq
          (.cond (.t 14)
           .skip
           (.exit 0))
          (.seq
           (.block 1
            (.seq
             (.reg false [0, 1, 5, 12, 13] [
               ⟨some 15, none, (.mov (.t 13))⟩,
               ⟨some 5, none, (.mov (.t 15))⟩])
             (.seq
              (.reg true [0, 1, 12, 13, 24] [
                ⟨some 16, none, (.mov (.t 0))⟩,
                ⟨some 17, none, (.mov (.t 5))⟩,
                ⟨some 18, none, (.idx 3 (.t 16) (.t 17))⟩,
                ⟨some 19, none, (.load true 3 (.t 18))⟩,
                ⟨some 20, none, (.mov (.t 1))⟩,
                ⟨some 21, none, (.mov (.t 5))⟩,
                ⟨some 22, none, (.idx 3 (.t 20) (.t 21))⟩,
                ⟨some 23, none, (.load true 3 (.t 22))⟩,
                ⟨some 24, none, (.more (.eqA true [.i, .i, .b]) [(.t 19), (.t 23)])⟩])
              (.cond (.t 24)
               (.seq
                (.reg false [4] [
                  ⟨some 4, none, (.mov (.c (.bool false)))⟩])
                .ret)
               .skip))))
           (.reg false [0, 1, 12, 13] [
             ⟨some 25, none, (.bin .add (.t 13) (.c (.int .i64 1)))⟩,
             ⟨some 13, none, (.mov (.t 25))⟩])))))))
     (.seq
      (.reg false [4] [
        ⟨some 4, none, (.mov (.c (.bool true)))⟩])
      .ret))))
theorem of_constraintlaw16_same {vals : List AV} {bs : List Box} {Q : AV → List Box → Prop} (hn : vals.length ≤ 26) (h : (⟨params 0 vals, bs, bs.length⟩ : St).fo true fun s => rc_constraintlaw16_same.go Try.prog true s (retN [.slot 4] Q)) : AM.Sem Try.prog 20 vals bs Q :=
  Sem.of (fn := Try.f20) (keeps := [(0, [0, 1]), (1, [0, 1, 10]), (2, [4]), (3, [0, 1, 12, 13]), (4, [0, 1, 12, 13, 14]), (5, [0, 1, 5, 12, 13]), (6, [0, 1, 12, 13, 24]), (7, [4]), (8, [0, 1, 12, 13]), (9, [4])]) (solo := []) Try.func20 rfl (by kernel_rfl) (by kernel_rfl) (by kernel_rfl) hn (run_of h)
theorem op_constraintlaw16_same {vals : List AV} {bs : List Box} {Q : AV → List Box → Prop} (hn : vals.length ≤ 26) (h : (⟨params 0 vals, bs, bs.length⟩ : St).fo true fun s => rc_constraintlaw16_same.gp Try.prog true s (retP [.slot 4] Q)) : AM.Sem Try.prog 20 vals bs Q :=
  Sem.nrm (Sem.of (fn := Try.f20) (keeps := [(0, [0, 1]), (1, [0, 1, 10]), (2, [4]), (3, [0, 1, 12, 13]), (4, [0, 1, 12, 13, 14]), (5, [0, 1, 5, 12, 13]), (6, [0, 1, 12, 13, 24]), (7, [4]), (8, [0, 1, 12, 13]), (9, [4])]) (solo := []) Try.func20 rfl (by kernel_rfl) (by kernel_rfl) (by kernel_rfl) hn (run_gp h))

def rc_constraintlaw16_sameAtom : RC :=
  (.seq
   (.reg false [2, 3] [
     ⟨some 2, none, (.box (.t 0))⟩,
     ⟨some 3, none, (.box (.t 1))⟩,
     ⟨some 4, none, (.mov (.c (.bool false)))⟩])
   (.seq
    (.seq
     (.reg false [2, 3, 19] [
       ⟨some 6, none, (.fptr 0 (.t 2))⟩,
       ⟨some 7, none, (.load false 1 (.t 6))⟩,
       ⟨some 8, none, (.fptr 0 (.t 3))⟩,
       ⟨some 9, none, (.load false 1 (.t 8))⟩,
       ⟨some 10, none, (.bin .neq (.t 7) (.t 9))⟩,
       ⟨some 11, none, (.mov (.t 10))⟩,
       ⟨some 12, some (11, false), (.fptr 1 (.t 2))⟩,
       ⟨some 13, some (11, false), (.load false 1 (.t 12))⟩,
       ⟨some 14, some (11, false), (.len false (.t 13))⟩,
       ⟨some 15, some (11, false), (.fptr 1 (.t 3))⟩,
       ⟨some 16, some (11, false), (.load false 1 (.t 15))⟩,
       ⟨some 17, some (11, false), (.len false (.t 16))⟩,
       ⟨some 18, some (11, false), (.bin .neq (.t 14) (.t 17))⟩,
       ⟨some 19, none, (.pick (.t 11) (.c (.bool true)) (.t 18))⟩])
     (.cond (.t 19)
      (.seq
       (.reg false [4] [
         ⟨some 4, none, (.mov (.c (.bool false)))⟩])
       .ret)
      .skip))
    (.seq
     (.seq
      (.reg false [2, 3, 22, 23] [
        ⟨some 20, none, (.fptr 1 (.t 2))⟩,
        ⟨some 21, none, (.load false 1 (.t 20))⟩,
        ⟨some 22, none, (.len false (.t 21))⟩,
        ⟨some 23, none, (.mov (.c (.int .i64 0)))⟩])
      (.block 0
       (.loop
        (.seq
         (.reg false [2, 3, 22, 23, 24] [
           ⟨some 24, none, (.bin .lss (.t 23) (.t 22))⟩])
         (.seq
          (.cond (.t 24)
           .skip
           (.exit 0))
          (.seq
           (.block 1
            (.seq
             (.reg false [2, 3, 5, 22, 23] [
               ⟨some 25, none, (.mov (.t 23))⟩,
               ⟨some 5, none, (.mov (.t 25))⟩])
             (.seq
              (.reg true [2, 3, 22, 23, 37] [
                ⟨some 26, none, (.fptr 1 (.t 2))⟩,
                ⟨some 27, none, (.load false 1 (.t 26))⟩,
                ⟨some 28, none, (.mov (.t 5))⟩,
                ⟨some 29, none, (.idx 4 (.t 27) (.t 28))⟩,
                ⟨some 30, none, (.load true 4 (.t 29))⟩,
                ⟨some 31, none, (.fptr 1 (.t 3))⟩,
                ⟨some 32, none, (.load false 1 (.t 31))⟩,
                ⟨some 33, none, (.mov (.t 5))⟩,
                ⟨some 34, none, (.idx 4 (.t 32) (.t 33))⟩,
                ⟨some 35, none, (.load true 4 (.t 34))⟩,
                ⟨some 36, none, (.call (.c (.fn (.func 36) [] [])) [(.t 30), (.t 35)])⟩,
                ⟨some 37, none, (.un .not (.t 36))⟩])
              (.cond (.t 37)
               (.seq
                (.reg false [4] [
                  ⟨some 4, none, (.mov (.c (.bool false)))⟩])
                .ret)
               .skip))))
           (.reg false [2, 3, 22, 23] [
             ⟨some 38, none, (.bin .add (.t 23) (.c (.int .i64 1)))⟩,
             ⟨some 23, none, (.mov (.t 38))⟩])))))))
     (.seq
      (.reg false [4] [
        ⟨some 4, none, (.mov (.c (.bool true)))⟩])
      .ret))))
theorem of_constraintlaw16_sameAtom {vals : List AV} {bs : List Box} {Q : AV → List Box → Prop} (hn : vals.length ≤ 39) (h : (⟨params 0 vals, bs, bs.length⟩ : St).fo true fun s => rc_constraintlaw16_sameAtom.go Try.prog true s (retN [.slot 4] Q)) : AM.Sem Try.prog 19 vals bs Q :=
  Sem.of (fn := Try.f19) (keeps := [(0, [2, 3]), (1, [2, 3, 19]), (2, [4]), (3, [2, 3, 22, 23]), (4, [2, 3, 22, 23, 24]), (5, [2, 3, 5, 22, 23]), (6, [2, 3, 22, 23, 37]), (7, [4]), (8, [2, 3, 22, 23]), (9, [4])]) (solo := []) Try.func19 rfl (by kernel_rfl) (by kernel_rfl) (by kernel_rfl) hn (run_of h)
theorem op_constraintlaw16_sameAtom {vals : List AV} {bs : List Box} {Q : AV → List Box → Prop} (hn : vals.length ≤ 39) (h : (⟨params 0 vals, bs, bs.length⟩ : St).fo true fun s => rc_constraintlaw16_sameAtom.gp Try.prog true s (retP [.slot 4] Q)) : AM.Sem Try.prog 19 vals bs Q :=
  Sem.nrm (Sem.of (fn := Try.f19) (keeps := [(0, [2, 3]), (1, [2, 3, 19]), (2, [4]), (3, [2, 3, 22, 23]), (4, [2, 3, 22, 23, 24]), (5, [2, 3, 5, 22, 23]), (6, [2, 3, 22, 23, 37]), (7, [4]), (8, [2, 3, 22, 23]), (9, [4])]) (solo := []) Try.func19 rfl (by kernel_rfl) (by kernel_rfl) (by kernel_rfl) hn (run_gp h))

def rc_constraintlaw16_OccurHeads : RC :=
  (.seq
   (.reg false [1] [
     ⟨some 1, none, (.box (.t 0))⟩,
     ⟨some 2, none, (.mov (.c (.bool false)))⟩])
   (.seq
    (.seq
     (.reg false [1, 11] [
       ⟨some 7, none, (.load true 6 (.t 1))⟩,
       ⟨some 8, none, (.bslice 6 [(.t 7)])⟩,
       ⟨some 9, none, (.build [(.sl .full []), (.sl .full [])] [(1, 1, (.t 8))])⟩,
       ⟨some 10, none, (.call (.c (.fn (.func 12) [] [])) [(.t 9)])⟩,
       ⟨some 11, none, (.un .not (.t 10))⟩])
     (.cond (.t 11)
      (.seq
       (.reg false [2] [
         ⟨some 12, none, (.call (.c (.fn (.func 13) [] [])) [])⟩,
         ⟨some 2, none, (.mov (.t 12))⟩])
       .ret)
      .skip))
    (.seq
     (.reg true [1, 3, 4] [
       ⟨some 13, none, (.load true 6 (.t 1))⟩,
       ⟨some 14, none, (.call (.c (.fn (.func 14) [] [])) [(.t 13)])⟩,
       ⟨some 15, none, (.load true 6 (.t 1))⟩,
       ⟨some 16, none, (.call (.c (.fn (.func 15) [] [])) [(.t 15)])⟩,
       ⟨some 3, none, (.take 14)⟩,
       ⟨some 4, none, (.take 16)⟩])
     (.seq
      (.seq
       (.reg true [3, 4, 28] [
         ⟨some 17, none, (.take 3)⟩,
         ⟨some 18, none, (.len false (.t 17))⟩,
         ⟨some 19, none, (.take 4)⟩,
         ⟨some 20, none, (.len false (.t 19))⟩,
         ⟨some 21, none, (.bin .neq (.t 18) (.t 20))⟩,
         ⟨some 22, none, (.take 21)⟩,
         ⟨some 23, some (22, false), (.load true 6 (.t 1))⟩,
         ⟨some 24, some (22, false), (.call (.c (.fn (.func 16) [] [])) [(.t 23)])⟩,
         ⟨some 25, some (22, false), (.load true 6 (.t 1))⟩,
         ⟨some 26, some (22, false), (.call (.c (.fn (.func 17) [] [])) [(.t 25)])⟩,
         ⟨some 27, some (22, false), (.more (.eqB true) [(.t 24), (.t 26)])⟩,
         ⟨some 28, none, (.pick (.t 22) (.c (.bool true)) (.t 27))⟩])
       (.cond (.t 28)
        (.seq
         (.reg false [2] [
           ⟨some 2, none, (.mov (.c (.bool false)))⟩])
         .ret)
        .skip))
      (.seq
       (.seq
        (.reg false [3, 4, 30, 31] [
          ⟨some 29, none, (.mov (.t 4))⟩,
          ⟨some 30, none, (.len false (.t 29))⟩,
          ⟨some 31, none, (.mov (.c (.int .i64 0)))⟩])
        (.block 0
         (.loop
          (.seq
           (.reg false [3, 4, 30, 31, 32] [
             ⟨some 32, none, (.bin .lss (.t 31) (.t 30))⟩])
           (.seq
            (.cond (.t 32)
             .skip
             (.exit 0))
            (.seq
             (.block 1
              (.seq
               (.reg false [3, 4, 5, 30, 31] [
                 ⟨some 33, none, (.mov (.t 31))⟩,
                 ⟨some 5, none, (.mov (.t 33))⟩])
               (.seq
                (.seq
                 (.reg false [3, 4, 5, 30, 31, 39, 40] [
                   ⟨some 34, none, (.mov (.t 4))⟩,
                   ⟨some 35, none, (.mov (.t 5))⟩,
                   ⟨some 36, none, (.idx 2 (.t 34) (.t 35))⟩,
                   ⟨some 37, none, (.fptr 1 (.t 36))⟩,
                   ⟨some 38, none, (.load false 1 (.t 37))⟩,
                   ⟨some 39, none, (.len false (.t 38))⟩,
                   ⟨some 40, none, (.mov (.c (.int .i64 0)))⟩])
                 (.block 2
                  (.loop
                   (.seq
                    (.reg false [3, 4, 5, 30, 31, 39, 40, 41] [
                      ⟨some 41, none, (.bin .lss (.t 40) (.t 39))⟩])
                    (.seq
                     (.cond (.t 41)
                      .skip
                      (.exit 2))
                     (.seq
                      (.block 3
                       (.seq
                        (.reg false [3, 4, 5, 6, 30, 31, 39, 40] [
                          ⟨some 42, none, (.mov (.t 40))⟩,
                          ⟨some 6, none, (.mov (.t 42))⟩])
                        (.seq
                         (.reg false [3, 4, 5, 30, 31, 39, 40, 52] [
                           ⟨some 43, none, (.mov (.t 4))⟩,
                           ⟨some 44, none, (.mov (.t 5))⟩,
                           ⟨some 45, none, (.idx 2 (.t 43) (.t 44))⟩,
                           ⟨some 46, none, (.fptr 1 (.t 45))⟩,
                           ⟨some 47, none, (.load false 1 (.t 46))⟩,
                           ⟨some 48, none, (.mov (.t 6))⟩,
                           ⟨some 49, none, (.idx 4 (.t 47) (.t 48))⟩,
                           ⟨some 50, none, (.load true 4 (.t 49))⟩,
                           ⟨some 51, none, (.call (.c (.fn (.func 18) [] [])) [(.t 50)])⟩,
                           ⟨some 52, none, (.un .not (.t 51))⟩])
                         (.cond (.t 52)
                          (.seq
                           (.reg false [2] [
                             ⟨some 53, none, (.call (.c (.fn (.func 13) [] [])) [])⟩,
                             ⟨some 2, none, (.mov (.t 53))⟩])
                           .ret)
                          .skip))))
                      (.reg false [3, 4, 5, 30, 31, 39, 40] [
                        ⟨some 54, none, (.bin .add (.t 40) (.c (.int .i64 1)))⟩,
                        ⟨some 40, none, (.mov (.t 54))⟩])))))))
                (.seq
                 (.reg true [3, 4, 30, 31, 64] [
                   ⟨some 55, none, (.mov (.t 3))⟩,
                   ⟨some 56, none, (.mov (.t 5))⟩,
                   ⟨some 57, none, (.idx 2 (.t 55) (.t 56))⟩,
                   ⟨some 58, none, (.load true 2 (.t 57))⟩,
                   ⟨some 59, none, (.mov (.t 4))⟩,
                   ⟨some 60, none, (.mov (.t 5))⟩,
                   ⟨some 61, none, (.idx 2 (.t 59) (.t 60))⟩,
                   ⟨some 62, none, (.load true 2 (.t 61))⟩,
                   ⟨some 63, none, (.call (.c (.fn (.func 19) [] [])) [(.t 58), (.t 62)])⟩,
                   ⟨some 64, none, (.un .not (.t 63))⟩])
                 (.cond (.t 64)
                  (.seq
                   (.reg false [2] [
                     ⟨some 2, none, (.mov (.c (.bool false)))⟩])
                   .ret)
                  .skip)))))
             (.reg false [3, 4, 30, 31] [
               ⟨some 65, none, (.bin .add (.t 31) (.c (.int .i64 1)))⟩,
               ⟨some 31, none, (.mov (.t 65))⟩])))))))
       (.seq
        (.reg false [2] [
          ⟨some 66, none, (.call (.c (.fn (.func 13) [] [])) [])⟩,
          ⟨some 2, none, (.mov (.t 66))⟩])
        .ret))))))
theorem of_constraintlaw16_OccurHeads {vals : List AV} {bs : List Box} {Q : AV → List Box → Prop} (hn : vals.length ≤ 67) (h : (⟨params 0 vals, bs, bs.length⟩ : St).fo true fun s => rc_constraintlaw16_OccurHeads.go Try.prog true s (retN [.slot 2] Q)) : AM.Sem Try.prog 3 vals bs Q :=
  Sem.of (fn := Try.f3) (keeps := [(0, [1]), (1, [1, 11]), (2, [2]), (3, [1, 3, 4]), (4, [3, 4, 28]), (5, [2]), (6, [3, 4, 30, 31]), (7, [3, 4, 30, 31, 32]), (8, [3, 4, 5, 30, 31]), (9, [3, 4, 5, 30, 31, 39, 40]), (10, [3, 4, 5, 30, 31, 39, 40, 41]), (11, [3, 4, 5, 6, 30, 31, 39, 40]), (12, [3, 4, 5, 30, 31, 39, 40, 52]), (13, [2]), (14, [3, 4, 5, 30, 31, 39, 40]), (15, [3, 4, 30, 31, 64]), (16, [2]), (17, [3, 4, 30, 31]), (18, [2])]) (solo := []) Try.func3 rfl (by kernel_rfl) (by kernel_rfl) (by kernel_rfl) hn (run_of h)
theorem op_constraintlaw16_OccurHeads {vals : List AV} {bs : List Box} {Q : AV → List Box → Prop} (hn : vals.length ≤ 67) (h : (⟨params 0 vals, bs, bs.length⟩ : St).fo true fun s => rc_constraintlaw16_OccurHeads.gp Try.prog true s (retP [.slot 2] Q)) : AM.Sem Try.prog 3 vals bs Q :=
  Sem.nrm (Sem.of (fn := Try.f3) (keeps := [(0, [1]), (1, [1, 11]), (2, [2]), (3, [1, 3, 4]), (4, [3, 4, 28]), (5, [2]), (6, [3, 4, 30, 31]), (7, [3, 4, 30, 31, 32]), (8, [3, 4, 5, 30, 31]), (9, [3, 4, 5, 30, 31, 39, 40]), (10, [3, 4, 5, 30, 31, 39, 40, 41]), (11, [3, 4, 5, 6, 30, 31, 39, 40]), (12, [3, 4, 5, 30, 31, 39, 40, 52]), (13, [2]), (14, [3, 4, 5, 30, 31, 39, 40]), (15, [3, 4, 30, 31, 64]), (16, [2]), (17, [3, 4, 30, 31]), (18, [2])]) (solo := []) Try.func3 rfl (by kernel_rfl) (by kernel_rfl) (by kernel_rfl) hn (run_gp h))

def rc_constraintlaw16_OccurLists : RC :=
  (.seq
   (.reg false [3, 4, 5] [
     ⟨some 3, none, (.box (.t 0))⟩,
     ⟨some 4, none, (.box (.t 1))⟩,
     ⟨some 5, none, (.box (.t 2))⟩,
     ⟨some 6, none, (.mov (.c (.bool false)))⟩])
   (.seq
    (.reg true [3, 5, 7, 8] [
      ⟨some 9, none, (.fptr 0 (.t 4))⟩,
      ⟨some 10, none, (.load false 1 (.t 9))⟩,
      ⟨some 11, none, (.fptr 1 (.t 4))⟩,
      ⟨some 12, none, (.load false 1 (.t 11))⟩,
      ⟨some 7, none, (.take 10)⟩,
      ⟨some 8, none, (.take 12)⟩])
    (.seq
     (.seq
      (.reg false [3, 5, 7, 8, 20] [
        ⟨some 13, none, (.load true 2 (.t 3))⟩,
        ⟨some 14, none, (.call (.c (.fn (.func 12) [] [])) [(.t 13)])⟩,
        ⟨some 15, none, (.un .not (.t 14))⟩,
        ⟨some 16, none, (.mov (.t 15))⟩,
        ⟨some 17, some (16, false), (.mov (.t 7))⟩,
        ⟨some 18, some (16, false), (.len true (.t 17))⟩,
        ⟨some 19, some (16, false), (.bin .gtr (.t 18) (.c (.int .i64 1000)))⟩,
        ⟨some 20, none, (.pick (.t 16) (.c (.bool true)) (.t 19))⟩])
      (.cond (.t 20)
       (.seq
        (.reg false [6] [
          ⟨some 21, none, (.call (.c (.fn (.func 13) [] [])) [])⟩,
          ⟨some 6, none, (.mov (.t 21))⟩])
        .ret)
       .skip))
     (.seq
      (.reg true [6] [
        ⟨some 22, none, (.load true 2 (.t 3))⟩,
        ⟨some 23, none, (.call (.c (.fn (.func 21) [] [])) [(.t 22)])⟩,
        ⟨some 24, none, (.load true 2 (.t 3))⟩,
        ⟨some 25, none, (.call (.c (.fn (.func 22) [] [])) [(.t 24)])⟩,
        ⟨some 26, none, (.call (.c (.fn (.func 20) [] [])) [(.t 23), (.t 25)])⟩,
        ⟨some 27, none, (.take 26)⟩,
        ⟨some 28, some (27, true), (.load true 2 (.t 3))⟩,
        ⟨some 29, some (27, true), (.mov (.t 7))⟩,
        ⟨some 30, some (27, true), (.mov (.t 8))⟩,
        ⟨some 31, some (27, true), (.call (.c (.fn (.func 23) [] [])) [(.t 28), (.t 29), (.t 30)])⟩,
        ⟨some 32, some (27, true), (.load true 2 (.t 3))⟩,
        ⟨some 33, some (27, true), (.mov (.t 7))⟩,
        ⟨some 34, some (27, true), (.mov (.t 8))⟩,
        ⟨some 35, some (27, true), (.call (.c (.fn (.func 24) [] [])) [(.t 32), (.t 33), (.t 34)])⟩,
        ⟨some 36, some (27, true), (.call (.c (.fn (.func 20) [] [])) [(.t 31), (.t 35)])⟩,
        ⟨some 37, none, (.pick (.t 27) (.t 36) (.c (.bool false)))⟩,
        ⟨some 38, none, (.mov (.t 37))⟩,
        ⟨some 39, some (38, true), (.load true 2 (.t 3))⟩,
        ⟨some 40, some (38, true), (.load true 3 (.t 5))⟩,
        ⟨some 41, some (38, true), (.call (.c (.fn (.func 26) [] [])) [(.t 39), (.t 40)])⟩,
        ⟨some 42, some (38, true), (.load true 2 (.t 3))⟩,
        ⟨some 43, some (38, true), (.load true 3 (.t 5))⟩,
        ⟨some 44, some (38, true), (.call (.c (.fn (.func 27) [] [])) [(.t 42), (.t 43)])⟩,
        ⟨some 45, some (38, true), (.call (.c (.fn (.func 25) [] [])) [(.t 41), (.t 44)])⟩,
        ⟨some 46, none, (.pick (.t 38) (.t 45) (.c (.bool false)))⟩,
        ⟨some 47, none, (.mov (.t 46))⟩,
        ⟨some 48, some (47, true), (.call (.c (.fn (.func 13) [] [])) [])⟩,
        ⟨some 49, none, (.pick (.t 47) (.t 48) (.c (.bool false)))⟩,
        ⟨some 6, none, (.mov (.t 49))⟩])
      .ret))))
theorem of_constraintlaw16_OccurLists {vals : List AV} {bs : List Box} {Q : AV → List Box → Prop} (hn : vals.length ≤ 50) (h : (⟨params 0 vals, bs, bs.length⟩ : St).fo true fun s => rc_constraintlaw16_OccurLists.go Try.prog true s (retN [.slot 6] Q)) : AM.Sem Try.prog 4 vals bs Q :=
  Sem.of (fn := Try.f4) (keeps := [(0, [3, 4, 5]), (1, [3, 5, 7, 8]), (2, [3, 5, 7, 8, 20]), (3, [6]), (4, [6])]) (solo := []) Try.func4 rfl (by kernel_rfl) (by kernel_rfl) (by kernel_rfl) hn (run_of h)
theorem op_constraintlaw16_OccurLists {vals : List AV} {bs : List Box} {Q : AV → List Box → Prop} (hn : vals.length ≤ 50) (h : (⟨params 0 vals, bs, bs.length⟩ : St).fo true fun s => rc_constraintlaw16_OccurLists.gp Try.prog true s (retP [.slot 6] Q)) : AM.Sem Try.prog 4 vals bs Q :=
  Sem.nrm (Sem.of (fn := Try.f4) (keeps := [(0, [3, 4, 5]), (1, [3, 5, 7, 8]), (2, [3, 5, 7, 8, 20]), (3, [6]), (4, [6])]) (solo := []) Try.func4 rfl (by kernel_rfl) (by kernel_rfl) (by kernel_rfl) hn (run_gp h))

def rc_constraintlaw16_OccurOnce : RC :=
  (.seq
   (.reg false [1] [
     ⟨some 1, none, (.box (.t 0))⟩,
     ⟨some 2, none, (.mov (.c (.bool false)))⟩])
   (.seq
    (.seq
     (.reg false [1, 14] [
       ⟨some 12, none, (.load true 2 (.t 1))⟩,
       ⟨some 13, none, (.call (.c (.fn (.func 12) [] [])) [(.t 12)])⟩,
       ⟨some 14, none, (.un .not (.t 13))⟩])
     (.cond (.t 14)
      (.seq
       (.reg false [2] [
         ⟨some 15, none, (.call (.c (.fn (.func 13) [] [])) [])⟩,
         ⟨some 2, none, (.mov (.t 15))⟩])
       .ret)
      .skip))
    (.seq
     (.reg false [1, 3] [
       ⟨some 16, none, (.load true 2 (.t 1))⟩,
       ⟨some 17, none, (.call (.c (.fn (.func 21) [] [])) [(.t 16)])⟩,
       ⟨some 3, none, (.mov (.t 17))⟩])
     (.seq
      (.reg false [1, 3, 4] [
        ⟨some 4, none, (.mov (.c (.int .i64 0)))⟩])
      (.seq
       (.seq
        (.reg false [1, 3, 4, 20, 21] [
          ⟨some 18, none, (.fptr 1 (.t 1))⟩,
          ⟨some 19, none, (.load false 1 (.t 18))⟩,
          ⟨some 20, none, (.len false (.t 19))⟩,
          ⟨some 21, none, (.mov (.c (.int .i64 0)))⟩])
        (.block 0
         (.loop
          (.seq
           (.reg false [1, 3, 4, 20, 21, 22] [
             ⟨some 22, none, (.bin .lss (.t 21) (.t 20))⟩])
           (.seq
            (.cond (.t 22)
             .skip
             (.exit 0))
            (.seq
             (.block 1
              (.seq
               (.reg false [1, 3, 4, 5, 20, 21] [
                 ⟨some 23, none, (.mov (.t 21))⟩,
                 ⟨some 5, none, (.mov (.t 23))⟩])
               (.reg true [1, 3, 4, 20, 21] [
                 ⟨some 24, none, (.mov (.t 4))⟩,
                 ⟨some 25, none, (.fptr 1 (.t 1))⟩,
                 ⟨some 26, none, (.load false 1 (.t 25))⟩,
                 ⟨some 27, none, (.mov (.t 5))⟩,
                 ⟨some 28, none, (.idx 6 (.t 26) (.t 27))⟩,
                 ⟨some 29, none, (.fptr 1 (.t 28))⟩,
                 ⟨some 30, none, (.load false 1 (.t 29))⟩,
                 ⟨some 31, none, (.len false (.t 30))⟩,
                 ⟨some 32, none, (.fptr 1 (.t 1))⟩,
                 ⟨some 33, none, (.load false 1 (.t 32))⟩,
                 ⟨some 34, none, (.mov (.t 5))⟩,
                 ⟨some 35, none, (.idx 6 (.t 33) (.t 34))⟩,
                 ⟨some 36, none, (.fptr 2 (.t 35))⟩,
                 ⟨some 37, none, (.load false 1 (.t 36))⟩,
                 ⟨some 38, none, (.len false (.t 37))⟩,
                 ⟨some 39, none, (.bin .add (.t 31) (.t 38))⟩,
                 ⟨some 40, none, (.bin .add (.t 24) (.t 39))⟩,
                 ⟨some 4, none, (.mov (.t 40))⟩])))
             (.reg false [1, 3, 4, 20, 21] [
               ⟨some 41, none, (.bin .add (.t 21) (.c (.int .i64 1)))⟩,
               ⟨some 21, none, (.mov (.t 41))⟩])))))))
       (.seq
        (.seq
         (.reg false [1, 3, 45] [
           ⟨some 42, none, (.mov (.t 3))⟩,
           ⟨some 43, none, (.len false (.t 42))⟩,
           ⟨some 44, none, (.mov (.t 4))⟩,
           ⟨some 45, none, (.bin .neq (.t 43) (.t 44))⟩])
         (.cond (.t 45)
          (.seq
           (.reg false [2] [
             ⟨some 2, none, (.mov (.c (.bool false)))⟩])
           .ret)
          .skip))
        (.seq
         (.seq
          (.reg false [1, 3, 47, 48] [
            ⟨some 46, none, (.mov (.t 3))⟩,
            ⟨some 47, none, (.len false (.t 46))⟩,
            ⟨some 48, none, (.mov (.c (.int .i64 0)))⟩])
          (.block 2
           (.loop
            (.seq
             (.reg false [1, 3, 47, 48, 49] [
               ⟨some 49, none, (.bin .lss (.t 48) (.t 47))⟩])
             (.seq
              (.cond (.t 49)
               .skip
               (.exit 2))
              (.seq
               (.block 3
                (.seq
                 (.reg false [1, 3, 6, 47, 48] [
                   ⟨some 50, none, (.mov (.t 48))⟩,
                   ⟨some 6, none, (.mov (.t 50))⟩])
                 (.seq
                  (.reg false [1, 3, 6, 7, 47, 48] [
                    ⟨some 51, none, (.mov (.t 3))⟩,
                    ⟨some 52, none, (.mov (.t 6))⟩,
                    ⟨some 53, none, (.idx 3 (.t 51) (.t 52))⟩,
                    ⟨some 54, none, (.load true 3 (.t 53))⟩,
                    ⟨some 7, none, (.box (.c (.agg [(.int .i64 0), (.int .i64 0), (.bool false)])))⟩,
                    ⟨none, none, (.store 3 (.t 7) (.t 54))⟩])
                  (.seq
                   (.seq
                    (.reg true [1, 3, 6, 7, 47, 48, 102] [
                      ⟨some 55, none, (.fptr 0 (.t 7))⟩,
                      ⟨some 56, none, (.load false 1 (.t 55))⟩,
                      ⟨some 57, none, (.bin .lss (.t 56) (.c (.int .i64 0)))⟩,
                      ⟨some 58, none, (.take 57)⟩,
                      ⟨some 59, some (58, false), (.fptr 0 (.t 7))⟩,
                      ⟨some 60, some (58, false), (.load false 1 (.t 59))⟩,
                      ⟨some 61, some (58, false), (.fptr 1 (.t 1))⟩,
                      ⟨some 62, some (58, false), (.load false 1 (.t 61))⟩,
                      ⟨some 63, some (58, false), (.len false (.t 62))⟩,
                      ⟨some 64, some (58, false), (.bin .geq (.t 60) (.t 63))⟩,
                      ⟨some 65, none, (.pick (.t 58) (.c (.bool true)) (.t 64))⟩,
                      ⟨some 66, none, (.take 65)⟩,
                      ⟨some 67, some (66, false), (.take 6)⟩,
                      ⟨some 68, some (66, false), (.bin .gtr (.t 67) (.c (.int .i64 0)))⟩,
                      ⟨some 69, some (66, false), (.take 68)⟩,
                      ⟨some 70, some (69, true), (.take 3)⟩,
                      ⟨some 71, some (69, true), (.take 6)⟩,
                      ⟨some 72, some (69, true), (.bin .sub (.t 71) (.c (.int .i64 1)))⟩,
                      ⟨some 73, some (69, true), (.idx 3 (.t 70) (.t 72))⟩,
                      ⟨some 74, some (69, true), (.fptr 0 (.t 73))⟩,
                      ⟨some 75, some (69, true), (.load false 1 (.t 74))⟩,
                      ⟨some 76, some (69, true), (.fptr 0 (.t 7))⟩,
                      ⟨some 77, some (69, true), (.load false 1 (.t 76))⟩,
                      ⟨some 78, some (69, true), (.bin .gtr (.t 75) (.t 77))⟩,
                      ⟨some 79, some (69, true), (.take 78)⟩,
                      ⟨some 80, some (79, false), (.take 3)⟩,
                      ⟨some 81, some (79, false), (.take 6)⟩,
                      ⟨some 82, some (79, false), (.bin .sub (.t 81) (.c (.int .i64 1)))⟩,
                      ⟨some 83, some (79, false), (.idx 3 (.t 80) (.t 82))⟩,
                      ⟨some 84, some (79, false), (.fptr 0 (.t 83))⟩,
                      ⟨some 85, some (79, false), (.load false 1 (.t 84))⟩,
                      ⟨some 86, some (79, false), (.fptr 0 (.t 7))⟩,
                      ⟨some 87, some (79, false), (.load false 1 (.t 86))⟩,
                      ⟨some 88, some (79, false), (.bin .eql (.t 85) (.t 87))⟩,
                      ⟨some 89, some (79, false), (.take 88)⟩,
                      ⟨some 90, some (89, true), (.take 3)⟩,
                      ⟨some 91, some (89, true), (.take 6)⟩,
                      ⟨some 92, some (89, true), (.bin .sub (.t 91) (.c (.int .i64 1)))⟩,
                      ⟨some 93, some (89, true), (.idx 3 (.t 90) (.t 92))⟩,
                      ⟨some 94, some (89, true), (.fptr 1 (.t 93))⟩,
                      ⟨some 95, some (89, true), (.load false 1 (.t 94))⟩,
                      ⟨some 96, some (89, true), (.fptr 1 (.t 7))⟩,
                      ⟨some 97, some (89, true), (.load false 1 (.t 96))⟩,
                      ⟨some 98, some (89, true), (.bin .leq (.t 95) (.t 97))⟩,
                      ⟨some 99, some (79, false), (.pick (.t 89) (.t 98) (.c (.bool false)))⟩,
                      ⟨some 100, some (69, true), (.pick (.t 79) (.c (.bool true)) (.t 99))⟩,
                      ⟨some 101, some (66, false), (.pick (.t 69) (.t 100) (.c (.bool false)))⟩,
                      ⟨some 102, none, (.pick (.t 66) (.c (.bool true)) (.t 101))⟩])
                    (.cond (.t 102)
                     (.seq
                      (.reg false [2] [
                        ⟨some 2, none, (.mov (.c (.bool false)))⟩])
                      .ret)
                     .skip))
                   (.seq
                    (.reg false [1, 3, 6, 7, 8, 47, 48] [
                      ⟨some 103, none, (.fptr 1 (.t 1))⟩,
                      ⟨some 104, none, (.load false 1 (.t 103))⟩,
                      ⟨some 105, none, (.fptr 0 (.t 7))⟩,
                      ⟨some 106, none, (.load false 1 (.t 105))⟩,
                      ⟨some 107, none, (.idx 6 (.t 104) (.t 106))⟩,
                      ⟨some 108, none, (.load true 6 (.t 107))⟩,
                      ⟨some 109, none, (.call (.c (.fn (.func 14) [] [])) [(.t 108)])⟩,
                      ⟨some 8, none, (.mov (.t 109))⟩])
                    (.seq
                     (.seq
                      (.reg true [1, 3, 6, 7, 8, 47, 48, 145] [
                        ⟨some 110, none, (.fptr 1 (.t 7))⟩,
                        ⟨some 111, none, (.load false 1 (.t 110))⟩,
                        ⟨some 112, none, (.bin .lss (.t 111) (.c (.int .i64 0)))⟩,
                        ⟨some 113, none, (.take 112)⟩,
                        ⟨some 114, some (113, false), (.fptr 1 (.t 7))⟩,
                        ⟨some 115, some (113, false), (.load false 1 (.t 114))⟩,
                        ⟨some 116, some (113, false), (.take 8)⟩,
                        ⟨some 117, some (113, false), (.len false (.t 116))⟩,
                        ⟨some 118, some (113, false), (.bin .geq (.t 115) (.t 117))⟩,
                        ⟨some 119, none, (.pick (.t 113) (.c (.bool true)) (.t 118))⟩,
                        ⟨some 120, none, (.take 119)⟩,
                        ⟨some 121, some (120, false), (.fptr 2 (.t 7))⟩,
                        ⟨some 122, some (120, false), (.load false 1 (.t 121))⟩,
                        ⟨some 123, some (120, false), (.fptr 1 (.t 7))⟩,
                        ⟨some 124, some (120, false), (.load false 1 (.t 123))⟩,
                        ⟨some 125, some (120, false), (.fptr 1 (.t 1))⟩,
                        ⟨some 126, some (120, false), (.load false 1 (.t 125))⟩,
                        ⟨some 127, some (120, false), (.fptr 0 (.t 7))⟩,
                        ⟨some 128, some (120, false), (.load false 1 (.t 127))⟩,
                        ⟨some 129, some (120, false), (.idx 6 (.t 126) (.t 128))⟩,
                        ⟨some 130, some (120, false), (.fptr 1 (.t 129))⟩,
                        ⟨some 131, some (120, false), (.load false 1 (.t 130))⟩,
                        ⟨some 132, some (120, false), (.len false (.t 131))⟩,
                        ⟨some 133, some (120, false), (.bin .lss (.t 124) (.t 132))⟩,
                        ⟨some 134, some (120, false), (.more (.eqB true) [(.t 122), (.t 133)])⟩,
                        ⟨some 135, none, (.pick (.t 120) (.c (.bool true)) (.t 134))⟩,
                        ⟨some 136, none, (.take 135)⟩,
                        ⟨some 137, some (136, false), (.load true 2 (.t 1))⟩,
                        ⟨some 138, some (136, false), (.load true 3 (.t 7))⟩,
                        ⟨some 139, some (136, false), (.call (.c (.fn (.func 26) [] [])) [(.t 137), (.t 138)])⟩,
                        ⟨some 140, some (136, false), (.len false (.t 139))⟩,
                        ⟨some 141, some (136, false), (.take 8)⟩,
                        ⟨some 142, some (136, false), (.len false (.t 141))⟩,
                        ⟨some 143, some (136, false), (.bin .sub (.t 142) (.c (.int .i64 1)))⟩,
                        ⟨some 144, some (136, false), (.bin .neq (.t 140) (.t 143))⟩,
                        ⟨some 145, none, (.pick (.t 136) (.c (.bool true)) (.t 144))⟩])
                      (.cond (.t 145)
                       (.seq
                        (.reg false [2] [
                          ⟨some 2, none, (.mov (.c (.bool false)))⟩])
                        .ret)
                       .skip))
                     (.seq
                      (.seq
                       (.reg false [1, 3, 7, 8, 47, 48, 147] [
                         ⟨some 146, none, (.mov (.t 6))⟩,
                         ⟨some 147, none, (.bin .geq (.t 146) (.c (.int .i64 40)))⟩])
                       (.cond (.t 147)
                        (.exit 3)
                        .skip))
                      (.seq
                       (.reg false [1, 3, 7, 8, 9, 47, 48] [
                         ⟨some 9, none, (.mov (.c (.int .i64 0)))⟩])
                       (.seq
                        (.seq
                         (.reg true [1, 3, 7, 9, 47, 48, 162, 163, 164] [
                           ⟨some 148, none, (.load true 2 (.t 1))⟩,
                           ⟨some 149, none, (.mov (.t 8))⟩,
                           ⟨some 150, none, (.fptr 1 (.t 7))⟩,
                           ⟨some 151, none, (.load false 1 (.t 150))⟩,
                           ⟨some 152, none, (.idx 2 (.t 149) (.t 151))⟩,
                           ⟨some 153, none, (.fptr 0 (.t 152))⟩,
                           ⟨some 154, none, (.load false 1 (.t 153))⟩,
                           ⟨some 155, none, (.mov (.t 8))⟩,
                           ⟨some 156, none, (.fptr 1 (.t 7))⟩,
                           ⟨some 157, none, (.load false 1 (.t 156))⟩,
                           ⟨some 158, none, (.idx 2 (.t 155) (.t 157))⟩,
                           ⟨some 159, none, (.fptr 1 (.t 158))⟩,
                           ⟨some 160, none, (.load false 1 (.t 159))⟩,
                           ⟨some 161, none, (.len false (.t 160))⟩,
                           ⟨some 162, none, (.call (.c (.fn (.func 23) [] [])) [(.t 148), (.t 154), (.t 161)])⟩,
                           ⟨some 163, none, (.len false (.t 162))⟩,
                           ⟨some 164, none, (.mov (.c (.int .i64 0)))⟩])
                         (.block 4
                          (.loop
                           (.seq
                            (.reg false [1, 3, 7, 9, 47, 48, 162, 163, 164, 165] [
                              ⟨some 165, none, (.bin .lss (.t 164) (.t 163))⟩])
                            (.seq
                             (.cond (.t 165)
                              .skip
                              (.exit 4))
                             (.seq
                              (.block 5
                               (.seq
                                (.reg false [1, 3, 7, 9, 11, 47, 48, 162, 163, 164] [
                                  ⟨some 166, none, (.idx 3 (.t 162) (.t 164))⟩,
                                  ⟨some 167, none, (.load true 3 (.t 166))⟩,
                                  ⟨some 11, none, (.box (.c (.agg [(.int .i64 0), (.int .i64 0), (.bool false)])))⟩,
                                  ⟨none, none, (.store 3 (.t 11) (.t 167))⟩])
                                (.seq
                                 (.reg false [1, 3, 7, 9, 47, 48, 162, 163, 164, 170] [
                                   ⟨some 168, none, (.load true 3 (.t 11))⟩,
                                   ⟨some 169, none, (.load true 3 (.t 7))⟩,
                                   ⟨some 170, none, (.more (.eqA false [.i, .i, .b]) [(.t 168), (.t 169)])⟩])
                                 (.cond (.t 170)
                                  (.reg false [1, 3, 7, 9, 47, 48, 162, 163, 164] [
                                    ⟨some 171, none, (.mov (.t 9))⟩,
                                    ⟨some 172, none, (.bin .add (.t 171) (.c (.int .i64 1)))⟩,
                                    ⟨some 9, none, (.mov (.t 172))⟩])
                                  .skip))))
                              (.reg false [1, 3, 7, 9, 47, 48, 162, 163, 164] [
                                ⟨some 173, none, (.bin .add (.t 164) (.c (.int .i64 1)))⟩,
                                ⟨some 164, none, (.mov (.t 173))⟩])))))))
                        (.seq
                         (.reg false [1, 3, 47, 48, 175] [
                           ⟨some 174, none, (.mov (.t 9))⟩,
                           ⟨some 175, none, (.bin .neq (.t 174) (.c (.int .i64 1)))⟩])
                         (.cond (.t 175)
                          (.seq
                           (.reg false [2] [
                             ⟨some 2, none, (.mov (.c (.bool false)))⟩])
                           .ret)
                          .skip)))))))))))
               (.reg false [1, 3, 47, 48] [
                 ⟨some 176, none, (.bin .add (.t 48) (.c (.int .i64 1)))⟩,
                 ⟨some 48, none, (.mov (.t 176))⟩])))))))
         (.seq
          (.reg false [2] [
            ⟨some 177, none, (.call (.c (.fn (.func 13) [] [])) [])⟩,
            ⟨some 2, none, (.mov (.t 177))⟩])
          .ret))))))))
theorem of_constraintlaw16_OccurOnce {vals : List AV} {bs : List Box} {Q : AV → List Box → Prop} (hn : vals.length ≤ 178) (h : (⟨params 0 vals, bs, bs.length⟩ : St).fo true fun s => rc_constraintlaw16_OccurOnce.go Try.prog true s (retN [.slot 2] Q)) : AM.Sem Try.prog 5 vals bs Q :=
  Sem.of (fn := Try.f5) (keeps := [(0, [1]), (1, [1, 14]), (2, [2]), (3, [1, 3]), (4, [1, 3, 4]), (5, [1, 3, 4, 20, 21]), (6, [1, 3, 4, 20, 21, 22]), (7, [1, 3, 4, 5, 20, 21]), (8, [1, 3, 4, 20, 21]), (9, [1, 3, 4, 20, 21]), (10, [1, 3, 45]), (11, [2]), (12, [1, 3, 47, 48]), (13, [1, 3, 47, 48, 49]), (14, [1, 3, 6, 47, 48]), (15, [1, 3, 6, 7, 47, 48]), (16, [1, 3, 6, 7, 47, 48, 102]), (17, [2]), (18, [1, 3, 6, 7, 8, 47, 48]), (19, [1, 3, 6, 7, 8, 47, 48, 145]), (20, [2]), (21, [1, 3, 7, 8, 47, 48, 147]), (22, [1, 3, 7, 8, 9, 47, 48]), (23, [1, 3, 7, 9, 47, 48, 162, 163, 164]), (24, [1, 3, 7, 9, 47, 48, 162, 163, 164, 165]), (25, [1, 3, 7, 9, 11, 47, 48, 162, 163, 164]), (26, [1, 3, 7, 9, 47, 48, 162, 163, 164, 170]), (27, [1, 3, 7, 9, 47, 48, 162, 163, 164]), (28, [1, 3, 7, 9, 47, 48, 162, 163, 164]), (29, [1, 3, 47, 48, 175]), (30, [2]), (31, [1, 3, 47, 48]), (32, [2])]) (solo := []) Try.func5 rfl (by kernel_rfl) (by kernel_rfl) (by kernel_rfl) hn (run_of h)
theorem op_constraintlaw16_OccurOnce {vals : List AV} {bs : List Box} {Q : AV → List Box → Prop} (hn : vals.length ≤ 178) (h : (⟨params 0 vals, bs, bs.length⟩ : St).fo true fun s => rc_constraintlaw16_OccurOnce.gp Try.prog true s (retP [.slot 2] Q)) : AM.Sem Try.prog 5 vals bs Q :=
  Sem.nrm (Sem.of (fn := Try.f5) (keeps := [(0, [1]), (1, [1, 14]), (2, [2]), (3, [1, 3]), (4, [1, 3, 4]), (5, [1, 3, 4, 20, 21]), (6, [1, 3, 4, 20, 21, 22]), (7, [1, 3, 4, 5, 20, 21]), (8, [1, 3, 4, 20, 21]), (9, [1, 3, 4, 20, 21]), (10, [1, 3, 45]), (11, [2]), (12, [1, 3, 47, 48]), (13, [1, 3, 47, 48, 49]), (14, [1, 3, 6, 47, 48]), (15, [1, 3, 6, 7, 47, 48]), (16, [1, 3, 6, 7, 47, 48, 102]), (17, [2]), (18, [1, 3, 6, 7, 8, 47, 48]), (19, [1, 3, 6, 7, 8, 47, 48, 145]), (20, [2]), (21, [1, 3, 7, 8, 47, 48, 147]), (22, [1, 3, 7, 8, 9, 47, 48]), (23, [1, 3, 7, 9, 47, 48, 162, 163, 164]), (24, [1, 3, 7, 9, 47, 48, 162, 163, 164, 165]), (25, [1, 3, 7, 9, 11, 47, 48, 162, 163, 164]), (26, [1, 3, 7, 9, 47, 48, 162, 163, 164, 170]), (27, [1, 3, 7, 9, 47, 48, 162, 163, 164]), (28, [1, 3, 7, 9, 47, 48, 162, 163, 164]), (29, [1, 3, 47, 48, 175]), (30, [2]), (31, [1, 3, 47, 48]), (32, [2])]) (solo := []) Try.func5 rfl (by kernel_rfl) (by kernel_rfl) (by kernel_rfl) hn (run_gp h))

def rc_constraintlaw16_awake : RC :=
  (.seq
   (.reg false [] [
     ⟨some 0, none, (.mov (.c (.bool false)))⟩])
   (.seq
    (.reg false [1, 2] [
      ⟨some 4, none, (.build [(.str ⟨⟨[]⟩⟩), (.sl .full [])] [(0, 1, (.c (.str ⟨⟨[97]⟩⟩)))])⟩,
      ⟨some 5, none, (.build [(.str ⟨⟨[]⟩⟩), (.sl .full [])] [(0, 1, (.c (.str ⟨⟨[98]⟩⟩)))])⟩,
      ⟨some 1, none, (.box (.c (.agg [(.str ⟨⟨[]⟩⟩), (.sl .full [])])))⟩,
      ⟨some 2, none, (.box (.c (.agg [(.str ⟨⟨[]⟩⟩), (.sl .full [])])))⟩,
      ⟨none, none, (.store 2 (.t 1) (.t 4))⟩,
      ⟨none, none, (.store 2 (.t 2) (.t 5))⟩])
    (.seq
     (.reg false [3] [
       ⟨some 6, none, (.load true 2 (.t 1))⟩,
       ⟨some 7, none, (.bslice 2 [(.t 6)])⟩,
       ⟨some 8, none, (.load true 2 (.t 2))⟩,
       ⟨some 9, none, (.load true 2 (.t 1))⟩,
       ⟨some 10, none, (.bslice 2 [(.t 8), (.t 9)])⟩,
       ⟨some 11, none, (.build [(.str ⟨⟨[]⟩⟩), (.sl .full []), (.sl .full []), (.sl .full []), (.sl .full []), (.int .i64 0)] [(1, 1, (.t 7)), (2, 1, (.t 10))])⟩,
       ⟨some 12, none, (.bslice 6 [(.t 11)])⟩,
       ⟨some 13, none, (.build [(.sl .full []), (.sl .full [])] [(1, 1, (.t 12))])⟩,
       ⟨some 3, none, (.box (.c (.agg [(.sl .full []), (.sl .full [])])))⟩,
       ⟨none, none, (.store 2 (.t 3) (.t 13))⟩])
     (.seq
      (.reg false [0] [
        ⟨some 14, none, (.load true 2 (.t 3))⟩,
        ⟨some 15, none, (.call (.c (.fn (.func 21) [] [])) [(.t 14)])⟩,
        ⟨some 16, none, (.build [(.int .i64 0), (.int .i64 0), (.bool false)] [(0, 1, (.c (.int .i64 0))), (1, 1, (.c (.int .i64 2)))])⟩,
        ⟨some 17, none, (.build [(.int .i64 0), (.int .i64 0), (.bool false)] [(0, 1, (.c (.int .i64 0))), (1, 1, (.c (.int .i64 1)))])⟩,
        ⟨some 18, none, (.build [(.int .i64 0), (.int .i64 0), (.bool false)] [(0, 1, (.c (.int .i64 0))), (1, 1, (.c (.int .i64 0))), (2, 1, (.c (.bool true)))])⟩,
        ⟨some 19, none, (.bslice 3 [(.t 16), (.t 17), (.t 18)])⟩,
        ⟨some 20, none, (.call (.c (.fn (.func 20) [] [])) [(.t 15), (.t 19)])⟩,
        ⟨some 21, none, (.mov (.t 20))⟩,
        ⟨some 22, some (21, true), (.load true 2 (.t 3))⟩,
        ⟨some 23, some (21, true), (.call (.c (.fn (.func 23) [] [])) [(.t 22), (.c (.str ⟨⟨[97]⟩⟩)), (.c (.int .i64 0))])⟩,
        ⟨some 24, some (21, true), (.build [(.int .i64 0), (.int .i64 0), (.bool false)] [(0, 1, (.c (.int .i64 0))), (1, 1, (.c (.int .i64 2)))])⟩,
        ⟨some 25, some (21, true), (.build [(.int .i64 0), (.int .i64 0), (.bool false)] [(0, 1, (.c (.int .i64 0))), (1, 1, (.c (.int .i64 0))), (2, 1, (.c (.bool true)))])⟩,
        ⟨some 26, some (21, true), (.bslice 3 [(.t 24), (.t 25)])⟩,
        ⟨some 27, some (21, true), (.call (.c (.fn (.func 20) [] [])) [(.t 23), (.t 26)])⟩,
        ⟨some 28, none, (.pick (.t 21) (.t 27) (.c (.bool false)))⟩,
        ⟨some 29, none, (.mov (.t 28))⟩,
        ⟨some 30, some (29, true), (.load true 2 (.t 3))⟩,
        ⟨some 31, some (29, true), (.build [(.int .i64 0), (.int .i64 0), (.bool false)] [(1, 1, (.c (.int .i64 1)))])⟩,
        ⟨some 32, some (29, true), (.call (.c (.fn (.func 26) [] [])) [(.t 30), (.t 31)])⟩,
        ⟨some 33, some (29, true), (.bslice 1 [(.c (.int .i64 0)), (.c (.int .i64 2))])⟩,
        ⟨some 34, some (29, true), (.call (.c (.fn (.func 25) [] [])) [(.t 32), (.t 33)])⟩,
        ⟨some 35, none, (.pick (.t 29) (.t 34) (.c (.bool false)))⟩,
        ⟨some 36, none, (.mov (.t 35))⟩,
        ⟨some 37, some (36, true), (.fptr 1 (.t 3))⟩,
        ⟨some 38, some (36, true), (.load false 1 (.t 37))⟩,
        ⟨some 39, some (36, true), (.idx 6 (.t 38) (.c (.int .i64 0)))⟩,
        ⟨some 40, some (36, true), (.load true 6 (.t 39))⟩,
        ⟨some 41, some (36, true), (.call (.c (.fn (.func 16) [] [])) [(.t 40)])⟩,
        ⟨some 42, some (36, true), (.un .not (.t 41))⟩,
        ⟨some 43, none, (.pick (.t 36) (.t 42) (.c (.bool false)))⟩,
        ⟨some 44, none, (.mov (.t 43))⟩,
        ⟨some 45, some (44, true), (.fptr 1 (.t 3))⟩,
        ⟨some 46, some (44, true), (.load false 1 (.t 45))⟩,
        ⟨some 47, some (44, true), (.idx 6 (.t 46) (.c (.int .i64 0)))⟩,
        ⟨some 48, some (44, true), (.load true 6 (.t 47))⟩,
        ⟨some 49, some (44, true), (.call (.c (.fn (.func 14) [] [])) [(.t 48)])⟩,
        ⟨some 50, some (44, true), (.len false (.t 49))⟩,
        ⟨some 51, some (44, true), (.bin .eql (.t 50) (.c (.int .i64 3)))⟩,
        ⟨some 52, none, (.pick (.t 44) (.t 51) (.c (.bool false)))⟩,
        ⟨some 0, none, (.mov (.t 52))⟩])
      .ret))))
theorem of_constraintlaw16_awake {vals : List AV} {bs : List Box} {Q : AV → List Box → Prop} (hn : vals.length ≤ 53) (h : (⟨params 0 vals, bs, bs.length⟩ : St).fo true fun s => rc_constraintlaw16_awake.go Try.prog true s (retN [.slot 0] Q)) : AM.Sem Try.prog 13 vals bs Q :=
  Sem.of (fn := Try.f13) (keeps := [(0, []), (1, [1, 2]), (2, [3]), (3, [0])]) (solo := []) Try.func13 rfl (by kernel_rfl) (by kernel_rfl) (by kernel_rfl) hn (run_of h)
theorem op_constraintlaw16_awake {vals : List AV} {bs : List Box} {Q : AV → List Box → Prop} (hn : vals.length ≤ 53) (h : (⟨params 0 vals, bs, bs.length⟩ : St).fo true fun s => rc_constraintlaw16_awake.gp Try.prog true s (retP [.slot 0] Q)) : AM.Sem Try.prog 13 vals bs Q :=
  Sem.nrm (Sem.of (fn := Try.f13) (keeps := [(0, []), (1, [1, 2]), (2, [3]), (3, [0])]) (solo := []) Try.func13 rfl (by kernel_rfl) (by kernel_rfl) (by kernel_rfl) hn (run_gp h))

def rc_occur_each : RC :=
  (.seq
   (.reg false [1] [
     ⟨some 1, none, (.box (.t 0))⟩,
     ⟨some 2, none, (.mov (.c .nfn))⟩])
   (.seq
    (.reg false [2] [
      ⟨some 3, none, (.mkfn (.func 50) [] [(.t 1)])⟩,
      ⟨some 2, none, (.mov (.t 3))⟩])
    .ret))
theorem of_occur_each {vals : List AV} {bs : List Box} {Q : AV → List Box → Prop} (hn : vals.length ≤ 4) (h : (⟨params 0 vals, bs, bs.length⟩ : St).fo true fun s => rc_occur_each.go Try.prog true s (retN [.slot 2] Q)) : AM.Sem Try.prog 41 vals bs Q :=
  Sem.of (fn := Try.f41) (keeps := [(0, [1]), (1, [2])]) (solo := []) Try.func41 rfl (by kernel_rfl) (by kernel_rfl) (by kernel_rfl) hn (run_of h)
theorem op_occur_each {vals : List AV} {bs : List Box} {Q : AV → List Box → Prop} (hn : vals.length ≤ 4) (h : (⟨params 0 vals, bs, bs.length⟩ : St).fo true fun s => rc_occur_each.gp Try.prog true s (retP [.slot 2] Q)) : AM.Sem Try.prog 41 vals bs Q :=
  Sem.nrm (Sem.of (fn := Try.f41) (keeps := [(0, [1]), (1, [2])]) (solo := []) Try.func41 rfl (by kernel_rfl) (by kernel_rfl) (by kernel_rfl) hn (run_gp h))

def rc_occur_each_1 : RC :=
  (.seq
   (.reg false [0, 8, 9, 10] [
     ⟨some 7, none, (.fptr 1 (.t 1))⟩,
     ⟨some 8, none, (.load false 1 (.t 7))⟩,
     ⟨some 9, none, (.len false (.t 8))⟩,
     ⟨some 10, none, (.mov (.c (.int .i64 0)))⟩])
   (.block 0
    (.loop
     (.seq
      (.reg false [0, 8, 9, 10, 11] [
        ⟨some 11, none, (.bin .lss (.t 10) (.t 9))⟩])
      (.seq
       (.cond (.t 11)
        .skip
        (.exit 0))
       (.seq
        (.block 1
         (.seq
          (.reg false [0, 3, 4, 8, 9, 10] [
            ⟨some 12, none, (.mov (.t 10))⟩,
            ⟨some 13, none, (.idx 6 (.t 8) (.t 10))⟩,
            ⟨some 14, none, (.load true 6 (.t 13))⟩,
            ⟨some 4, none, (.box (.c (.agg [(.str ⟨⟨[]⟩⟩), (.sl .full []), (.sl .full []), (.sl .full []), (.sl .full []), (.int .i64 0)])))⟩,
            ⟨some 3, none, (.mov (.t 12))⟩,
            ⟨none, none, (.store 6 (.t 4) (.t 14))⟩])
          (.seq
           (.reg false [0, 3, 4, 5, 8, 9, 10] [
             ⟨some 15, none, (.load true 6 (.t 4))⟩,
             ⟨some 16, none, (.call (.c (.fn (.func 14) [] [])) [(.t 15)])⟩,
             ⟨some 5, none, (.mov (.t 16))⟩])
           (.seq
            (.reg false [0, 3, 4, 5, 6, 8, 9, 10] [
              ⟨some 17, none, (.mov (.t 5))⟩,
              ⟨some 18, none, (.len false (.t 17))⟩,
              ⟨some 19, none, (.bin .sub (.t 18) (.c (.int .i64 1)))⟩,
              ⟨some 6, none, (.mov (.t 19))⟩])
            (.block 2
             (.loop
              (.seq
               (.seq
                (.reg false [0, 3, 4, 5, 6, 8, 9, 10, 21] [
                  ⟨some 20, none, (.mov (.t 6))⟩,
                  ⟨some 21, none, (.bin .geq (.t 20) (.c (.int .i64 0)))⟩])
                (.cond (.t 21)
                 .skip
                 (.exit 2)))
               (.seq
                (.block 3
                 (.seq
                  (.solo 13 [0, 3, 4, 5, 6, 8, 9, 10, 38] [
                    ⟨some 24, none, (.mov (.t 0))⟩,
                    ⟨some 25, none, (.mov (.t 3))⟩,
                    ⟨some 26, none, (.mov (.t 6))⟩,
                    ⟨some 27, none, (.mov (.t 6))⟩,
                    ⟨some 28, none, (.fptr 1 (.t 4))⟩,
                    ⟨some 29, none, (.load false 1 (.t 28))⟩,
                    ⟨some 30, none, (.len false (.t 29))⟩,
                    ⟨some 31, none, (.bin .lss (.t 27) (.t 30))⟩,
                    ⟨some 32, none, (.build [(.int .i64 0), (.int .i64 0), (.bool false)] [(0, 1, (.t 25)), (1, 1, (.t 26)), (2, 1, (.t 31))])⟩,
                    ⟨some 33, none, (.mov (.t 5))⟩,
                    ⟨some 34, none, (.mov (.t 6))⟩,
                    ⟨some 35, none, (.idx 2 (.t 33) (.t 34))⟩,
                    ⟨some 36, none, (.load true 2 (.t 35))⟩,
                    ⟨some 37, none, (.callv (.t 24) [(.t 32), (.t 36)])⟩,
                    ⟨some 38, none, (.un .not (.t 37))⟩])
                  (.cond (.t 38)
                   .ret
                   .skip)))
                (.reg false [0, 3, 4, 5, 6, 8, 9, 10] [
                  ⟨some 22, none, (.mov (.t 6))⟩,
                  ⟨some 23, none, (.bin .sub (.t 22) (.c (.int .i64 1)))⟩,
                  ⟨some 6, none, (.mov (.t 23))⟩])))))))))
        (.reg false [0, 8, 9, 10] [
          ⟨some 39, none, (.bin .add (.t 10) (.c (.int .i64 1)))⟩,
          ⟨some 10, none, (.mov (.t 39))⟩])))))))
theorem of_occur_each_1 {vals : List AV} {bs : List Box} {Q : AV → List Box → Prop} (hn : vals.length ≤ 40) (h : (⟨params 0 vals, bs, bs.length⟩ : St).fo true fun s => rc_occur_each_1.go Try.prog true s (retN [] Q)) : AM.Sem Try.prog 50 vals bs Q :=
  Sem.of (fn := Try.f50) (keeps := [(0, [0, 8, 9, 10]), (1, [0, 8, 9, 10, 11]), (2, [0, 3, 4, 8, 9, 10]), (3, [0, 3, 4, 5, 8, 9, 10]), (4, [0, 3, 4, 5, 6, 8, 9, 10]), (5, [0, 3, 4, 5, 6, 8, 9, 10, 21]), (7, [0, 3, 4, 5, 6, 8, 9, 10, 38]), (6, [0, 3, 4, 5, 6, 8, 9, 10]), (8, [0, 8, 9, 10])]) (solo := [(7, 13)]) Try.func50 rfl (by kernel_rfl) (by kernel_rfl) (by kernel_rfl) hn (run_of h)
theorem op_occur_each_1 {vals : List AV} {bs : List Box} {Q : AV → List Box → Prop} (hn : vals.length ≤ 40) (h : (⟨params 0 vals, bs, bs.length⟩ : St).fo true fun s => rc_occur_each_1.gp Try.prog true s (retP [] Q)) : AM.Sem Try.prog 50 vals bs Q :=
  Sem.nrm (Sem.of (fn := Try.f50) (keeps := [(0, [0, 8, 9, 10]), (1, [0, 8, 9, 10, 11]), (2, [0, 3, 4, 8, 9, 10]), (3, [0, 3, 4, 5, 8, 9, 10]), (4, [0, 3, 4, 5, 6, 8, 9, 10]), (5, [0, 3, 4, 5, 6, 8, 9, 10, 21]), (7, [0, 3, 4, 5, 6, 8, 9, 10, 38]), (6, [0, 3, 4, 5, 6, 8, 9, 10]), (8, [0, 8, 9, 10])]) (solo := [(7, 13)]) Try.func50 rfl (by kernel_rfl) (by kernel_rfl) (by kernel_rfl) hn (run_gp h))

def rc_occur_All : RC :=
  (.seq
   (.reg false [1, 2] [
     ⟨some 1, none, (.box (.t 0))⟩,
     ⟨some 2, none, (.mov (.c (.sl .full [])))⟩])
   (.seq
    (.reg false [1, 2, 3] [
      ⟨some 3, none, (.box (.c (.sl .full [])))⟩])
    (.seq
     (.seq
      (.reg false [2, 3, 6] [
        ⟨some 5, none, (.load true 2 (.t 1))⟩,
        ⟨some 6, none, (.call (.c (.fn (.func 41) [] [])) [(.t 5)])⟩])
      (.block 0
       (.range (.t 6) [7, 8]
        (.reg false [3, 4] [
          ⟨some 4, none, (.box (.c (.agg [(.int .i64 0), (.int .i64 0), (.bool false)])))⟩,
          ⟨none, none, (.store 3 (.t 4) (.t 7))⟩])
        (.block 1
         (.reg false [] [
           ⟨some 9, none, (.load false 1 (.t 3))⟩,
           ⟨some 10, none, (.load true 3 (.t 4))⟩,
           ⟨some 11, none, (.bslice 3 [(.t 10)])⟩,
           ⟨some 12, none, (.append 3 (.t 9) (.t 11))⟩,
           ⟨none, none, (.store 1 (.t 3) (.t 12))⟩])))))
     (.seq
      (.reg false [2] [
        ⟨some 13, none, (.load false 1 (.t 3))⟩,
        ⟨some 2, none, (.mov (.t 13))⟩])
      .ret))))
theorem of_occur_All {vals : List AV} {bs : List Box} {Q : AV → List Box → Prop} (hn : vals.length ≤ 14) (h : (⟨params 0 vals, bs, bs.length⟩ : St).fo true fun s => rc_occur_All.go Try.prog true s (retN [.slot 2] Q)) : AM.Sem Try.prog 21 vals bs Q :=
  Sem.of (fn := Try.f21) (keeps := [(0, [1, 2]), (1, [1, 2, 3]), (2, [2, 3, 6]), (3, [3, 4]), (4, []), (5, [2])]) (solo := []) Try.func21 rfl (by kernel_rfl) (by kernel_rfl) (by kernel_rfl) hn (run_of h)
theorem op_occur_All {vals : List AV} {bs : List Box} {Q : AV → List Box → Prop} (hn : vals.length ≤ 14) (h : (⟨params 0 vals, bs, bs.length⟩ : St).fo true fun s => rc_occur_All.gp Try.prog true s (retP [.slot 2] Q)) : AM.Sem Try.prog 21 vals bs Q :=
  Sem.nrm (Sem.of (fn := Try.f21) (keeps := [(0, [1, 2]), (1, [1, 2, 3]), (2, [2, 3, 6]), (3, [3, 4]), (4, []), (5, [2])]) (solo := []) Try.func21 rfl (by kernel_rfl) (by kernel_rfl) (by kernel_rfl) hn (run_gp h))

def rc_occur_Of : RC :=
  (.seq
   (.reg false [3, 4, 5, 6] [
     ⟨some 3, none, (.box (.t 0))⟩,
     ⟨some 4, none, (.box (.t 1))⟩,
     ⟨some 5, none, (.box (.t 2))⟩,
     ⟨some 6, none, (.mov (.c (.sl .full [])))⟩])
   (.seq
    (.reg false [3, 4, 5, 6, 7] [
      ⟨some 7, none, (.box (.c (.sl .full [])))⟩])
    (.seq
     (.seq
      (.reg false [4, 5, 6, 7, 11] [
        ⟨some 10, none, (.load true 2 (.t 3))⟩,
        ⟨some 11, none, (.call (.c (.fn (.func 41) [] [])) [(.t 10)])⟩])
      (.block 0
       (.range (.t 11) [12, 13]
        (.seq
         (.reg false [4, 5, 7, 8, 13] [
           ⟨some 8, none, (.box (.c (.agg [(.int .i64 0), (.int .i64 0), (.bool false)])))⟩,
           ⟨none, none, (.store 3 (.t 8) (.t 12))⟩])
         (.reg false [4, 5, 7, 8, 9] [
           ⟨some 9, none, (.box (.c (.agg [(.str ⟨⟨[]⟩⟩), (.sl .full [])])))⟩,
           ⟨none, none, (.store 2 (.t 9) (.t 13))⟩]))
        (.block 1
         (.seq
          (.reg false [7, 8, 24] [
            ⟨some 14, none, (.fptr 0 (.t 9))⟩,
            ⟨some 15, none, (.load false 1 (.t 14))⟩,
            ⟨some 16, none, (.load false 1 (.t 4))⟩,
            ⟨some 17, none, (.bin .eql (.t 15) (.t 16))⟩,
            ⟨some 18, none, (.mov (.t 17))⟩,
            ⟨some 19, some (18, true), (.fptr 1 (.t 9))⟩,
            ⟨some 20, some (18, true), (.load false 1 (.t 19))⟩,
            ⟨some 21, some (18, true), (.len false (.t 20))⟩,
            ⟨some 22, some (18, true), (.load false 1 (.t 5))⟩,
            ⟨some 23, some (18, true), (.bin .eql (.t 21) (.t 22))⟩,
            ⟨some 24, none, (.pick (.t 18) (.t 23) (.c (.bool false)))⟩])
          (.cond (.t 24)
           (.reg false [] [
             ⟨some 25, none, (.load false 1 (.t 7))⟩,
             ⟨some 26, none, (.load true 3 (.t 8))⟩,
             ⟨some 27, none, (.bslice 3 [(.t 26)])⟩,
             ⟨some 28, none, (.append 3 (.t 25) (.t 27))⟩,
             ⟨none, none, (.store 1 (.t 7) (.t 28))⟩])
           .skip))))))
     (.seq
      (.reg false [6] [
        ⟨some 29, none, (.load false 1 (.t 7))⟩,
        ⟨some 6, none, (.mov (.t 29))⟩])
      .ret))))
theorem of_occur_Of {vals : List AV} {bs : List Box} {Q : AV → List Box → Prop} (hn : vals.length ≤ 30) (h : (⟨params 0 vals, bs, bs.length⟩ : St).fo true fun s => rc_occur_Of.go Try.prog true s (retN [.slot 6] Q)) : AM.Sem Try.prog 23 vals bs Q :=
  Sem.of (fn := Try.f23) (keeps := [(0, [3, 4, 5, 6]), (1, [3, 4, 5, 6, 7]), (2, [4, 5, 6, 7, 11]), (3, [4, 5, 7, 8, 13]), (4, [4, 5, 7, 8, 9]), (5, [7, 8, 24]), (6, []), (7, [6])]) (solo := []) Try.func23 rfl (by kernel_rfl) (by kernel_rfl) (by kernel_rfl) hn (run_of h)
theorem op_occur_Of {vals : List AV} {bs : List Box} {Q : AV → List Box → Prop} (hn : vals.length ≤ 30) (h : (⟨params 0 vals, bs, bs.length⟩ : St).fo true fun s => rc_occur_Of.gp Try.prog true s (retP [.slot 6] Q)) : AM.Sem Try.prog 23 vals bs Q :=
  Sem.nrm (Sem.of (fn := Try.f23) (keeps := [(0, [3, 4, 5, 6]), (1, [3, 4, 5, 6, 7]), (2, [4, 5, 6, 7, 11]), (3, [4, 5, 7, 8, 13]), (4, [4, 5, 7, 8, 9]), (5, [7, 8, 24]), (6, []), (7, [6])]) (solo := []) Try.func23 rfl (by kernel_rfl) (by kernel_rfl) (by kernel_rfl) hn (run_gp h))

def rc_constraintlaw04_Same : RC :=
  (.seq
   (.reg false [2, 3] [
     ⟨some 2, none, (.box (.t 0))⟩,
     ⟨some 3, none, (.box (.t 1))⟩,
     ⟨some 4, none, (.mov (.c (.bool false)))⟩])
   (.seq
    (.seq
     (.reg false [2, 3, 33] [
       ⟨some 6, none, (.fptr 0 (.t 2))⟩,
       ⟨some 7, none, (.load false 1 (.t 6))⟩,
       ⟨some 8, none, (.fptr 0 (.t 3))⟩,
       ⟨some 9, none, (.load false 1 (.t 8))⟩,
       ⟨some 10, none, (.bin .neq (.t 7) (.t 9))⟩,
       ⟨some 11, none, (.mov (.t 10))⟩,
       ⟨some 12, some (11, false), (.fptr 1 (.t 2))⟩,
       ⟨some 13, some (11, false), (.load false 1 (.t 12))⟩,
       ⟨some 14, some (11, false), (.fptr 1 (.t 3))⟩,
       ⟨some 15, some (11, false), (.load false 1 (.t 14))⟩,
       ⟨some 16, some (11, false), (.bin .neq (.t 13) (.t 15))⟩,
       ⟨some 17, none, (.pick (.t 11) (.c (.bool true)) (.t 16))⟩,
       ⟨some 18, none, (.mov (.t 17))⟩,
       ⟨some 19, some (18, false), (.fptr 2 (.t 2))⟩,
       ⟨some 20, some (18, false), (.load false 1 (.t 19))⟩,
       ⟨some 21, some (18, false), (.fptr 2 (.t 3))⟩,
       ⟨some 22, some (18, false), (.load false 1 (.t 21))⟩,
       ⟨some 23, some (18, false), (.bin .neq (.t 20) (.t 22))⟩,
       ⟨some 24, none, (.pick (.t 18) (.c (.bool true)) (.t 23))⟩,
       ⟨some 25, none, (.mov (.t 24))⟩,
       ⟨some 26, some (25, false), (.fptr 3 (.t 2))⟩,
       ⟨some 27, some (25, false), (.load false 1 (.t 26))⟩,
       ⟨some 28, some (25, false), (.len false (.t 27))⟩,
       ⟨some 29, some (25, false), (.fptr 3 (.t 3))⟩,
       ⟨some 30, some (25, false), (.load false 1 (.t 29))⟩,
       ⟨some 31, some (25, false), (.len false (.t 30))⟩,
       ⟨some 32, some (25, false), (.bin .neq (.t 28) (.t 31))⟩,
       ⟨some 33, none, (.pick (.t 25) (.c (.bool true)) (.t 32))⟩])
     (.cond (.t 33)
      (.seq
       (.reg false [4] [
         ⟨some 4, none, (.mov (.c (.bool false)))⟩])
       .ret)
      .skip))
    (.seq
     (.seq
      (.reg false [2, 3, 36, 37] [
        ⟨some 34, none, (.fptr 3 (.t 2))⟩,
        ⟨some 35, none, (.load false 1 (.t 34))⟩,
        ⟨some 36, none, (.len false (.t 35))⟩,
        ⟨some 37, none, (.mov (.c (.int .i64 0)))⟩])
      (.block 0
       (.loop
        (.seq
         (.reg false [2, 3, 36, 37, 38] [
           ⟨some 38, none, (.bin .lss (.t 37) (.t 36))⟩])
         (.seq
          (.cond (.t 38)
           .skip
           (.exit 0))
          (.seq
           (.block 1
            (.seq
             (.reg false [2, 3, 5, 36, 37] [
               ⟨some 39, none, (.mov (.t 37))⟩,
               ⟨some 5, none, (.mov (.t 39))⟩])
             (.seq
              (.reg true [2, 3, 36, 37, 51] [
                ⟨some 40, none, (.fptr 3 (.t 2))⟩,
                ⟨some 41, none, (.load false 1 (.t 40))⟩,
                ⟨some 42, none, (.mov (.t 5))⟩,
                ⟨some 43, none, (.idx 4 (.t 41) (.t 42))⟩,
                ⟨some 44, none, (.load true 4 (.t 43))⟩,
                ⟨some 45, none, (.fptr 3 (.t 3))⟩,
                ⟨some 46, none, (.load false 1 (.t 45))⟩,
                ⟨some 47, none, (.mov (.t 5))⟩,
                ⟨some 48, none, (.idx 4 (.t 46) (.t 47))⟩,
                ⟨some 49, none, (.load true 4 (.t 48))⟩,
                ⟨some 50, none, (.call (.c (.fn (.func 36) [] [])) [(.t 44), (.t 49)])⟩,
                ⟨some 51, none, (.un .not (.t 50))⟩])
              (.cond (.t 51)
               (.seq
                (.reg false [4] [
                  ⟨some 4, none, (.mov (.c (.bool false)))⟩])
                .ret)
               .skip))))
           (.reg false [2, 3, 36, 37] [
             ⟨some 52, none, (.bin .add (.t 37) (.c (.int .i64 1)))⟩,
             ⟨some 37, none, (.mov (.t 52))⟩])))))))
     (.seq
      (.reg false [4] [
        ⟨some 4, none, (.mov (.c (.bool true)))⟩])
      .ret))))
theorem of_constraintlaw04_Same {vals : List AV} {bs : List Box} {Q : AV → List Box → Prop} (hn : vals.length ≤ 53) (h : (⟨params 0 vals, bs, bs.length⟩ : St).fo true fun s => rc_constraintlaw04_Same.go Try.prog true s (retN [.slot 4] Q)) : AM.Sem Try.prog 36 vals bs Q :=
  Sem.of (fn := Try.f36) (keeps := [(0, [2, 3]), (1, [2, 3, 33]), (2, [4]), (3, [2, 3, 36, 37]), (4, [2, 3, 36, 37, 38]), (5, [2, 3, 5, 36, 37]), (6, [2, 3, 36, 37, 51]), (7, [4]), (8, [2, 3, 36, 37]), (9, [4])]) (solo := []) Try.func36 rfl (by kernel_rfl) (by kernel_rfl) (by kernel_rfl) hn (run_of h)
theorem op_constraintlaw04_Same {vals : List AV} {bs : List Box} {Q : AV → List Box → Prop} (hn : vals.length ≤ 53) (h : (⟨params 0 vals, bs, bs.length⟩ : St).fo true fun s => rc_constraintlaw04_Same.gp Try.prog true s (retP [.slot 4] Q)) : AM.Sem Try.prog 36 vals bs Q :=
  Sem.nrm (Sem.of (fn := Try.f36) (keeps := [(0, [2, 3]), (1, [2, 3, 33]), (2, [4]), (3, [2, 3, 36, 37]), (4, [2, 3, 36, 37, 38]), (5, [2, 3, 5, 36, 37]), (6, [2, 3, 36, 37, 51]), (7, [4]), (8, [2, 3, 36, 37]), (9, [4])]) (solo := []) Try.func36 rfl (by kernel_rfl) (by kernel_rfl) (by kernel_rfl) hn (run_gp h))

def rc_constraintlaw04_Small : RC :=
  (.seq
   (.reg false [1] [
     ⟨some 1, none, (.box (.t 0))⟩,
     ⟨some 2, none, (.mov (.c (.bool false)))⟩])
   (.seq
    (.reg false [2] [
      ⟨some 3, none, (.load true 4 (.t 1))⟩,
      ⟨some 4, none, (.call (.c (.fn (.func 40) [] [])) [(.t 3), (.c (.int .i64 1000)), (.c (.int .i64 100))])⟩,
      ⟨some 5, none, (.bin .geq (.t 4) (.c (.int .i64 0)))⟩,
      ⟨some 2, none, (.mov (.t 5))⟩])
    .ret))
theorem of_constraintlaw04_Small {vals : List AV} {bs : List Box} {Q : AV → List Box → Prop} (hn : vals.length ≤ 6) (h : (⟨params 0 vals, bs, bs.length⟩ : St).fo true fun s => rc_constraintlaw04_Small.go Try.prog true s (retN [.slot 2] Q)) : AM.Sem Try.prog 18 vals bs Q :=
  Sem.of (fn := Try.f18) (keeps := [(0, [1]), (1, [2])]) (solo := []) Try.func18 rfl (by kernel_rfl) (by kernel_rfl) (by kernel_rfl) hn (run_of h)
theorem op_constraintlaw04_Small {vals : List AV} {bs : List Box} {Q : AV → List Box → Prop} (hn : vals.length ≤ 6) (h : (⟨params 0 vals, bs, bs.length⟩ : St).fo true fun s => rc_constraintlaw04_Small.gp Try.prog true s (retP [.slot 2] Q)) : AM.Sem Try.prog 18 vals bs Q :=
  Sem.nrm (Sem.of (fn := Try.f18) (keeps := [(0, [1]), (1, [2])]) (solo := []) Try.func18 rfl (by kernel_rfl) (by kernel_rfl) (by kernel_rfl) hn (run_gp h))

def rc_constraintlaw04_left : RC :=
  (.seq
   (.reg false [1, 2, 3] [
     ⟨some 3, none, (.box (.t 0))⟩,
     ⟨some 6, none, (.mov (.c (.int .i64 0)))⟩])
   (.seq
    (.reg false [1, 2, 3] [
      ⟨some 8, none, (.mov (.t 1))⟩,
      ⟨some 9, none, (.bin .sub (.t 8) (.c (.int .i64 1)))⟩,
      ⟨some 1, none, (.mov (.t 9))⟩])
    (.seq
     (.seq
      (.reg false [1, 2, 3, 15] [
        ⟨some 10, none, (.mov (.t 2))⟩,
        ⟨some 11, none, (.bin .lss (.t 10) (.c (.int .i64 1)))⟩,
        ⟨some 12, none, (.mov (.t 11))⟩,
        ⟨some 13, some (12, false), (.mov (.t 1))⟩,
        ⟨some 14, some (12, false), (.bin .lss (.t 13) (.c (.int .i64 0)))⟩,
        ⟨some 15, none, (.pick (.t 12) (.c (.bool true)) (.t 14))⟩])
      (.cond (.t 15)
       (.seq
        (.reg false [6] [
          ⟨some 6, none, (.mov (.c (.int .i64 (-1))))⟩])
        .ret)
       .skip))
     (.seq
      (.seq
       (.reg false [1, 2, 3, 18, 19] [
         ⟨some 16, none, (.fptr 3 (.t 3))⟩,
         ⟨some 17, none, (.load false 1 (.t 16))⟩,
         ⟨some 18, none, (.len false (.t 17))⟩,
         ⟨some 19, none, (.mov (.c (.int .i64 0)))⟩])
       (.block 0
        (.loop
         (.seq
          (.reg false [1, 2, 3, 18, 19, 20] [
            ⟨some 20, none, (.bin .lss (.t 19) (.t 18))⟩])
          (.seq
           (.cond (.t 20)
            .skip
            (.exit 0))
           (.seq
            (.block 1
             (.seq
              (.reg false [1, 2, 3, 7, 18, 19] [
                ⟨some 21, none, (.mov (.t 19))⟩,
                ⟨some 7, none, (.mov (.t 21))⟩])
              (.seq
               (.reg false [1, 2, 3, 18, 19] [
                 ⟨some 22, none, (.fptr 3 (.t 3))⟩,
                 ⟨some 23, none, (.load false 1 (.t 22))⟩,
                 ⟨some 24, none, (.mov (.t 7))⟩,
                 ⟨some 25, none, (.idx 4 (.t 23) (.t 24))⟩,
                 ⟨some 26, none, (.load true 4 (.t 25))⟩,
                 ⟨some 27, none, (.mov (.t 1))⟩,
                 ⟨some 28, none, (.mov (.t 2))⟩,
                 ⟨some 29, none, (.bin .sub (.t 28) (.c (.int .i64 1)))⟩,
                 ⟨some 30, none, (.call (.c (.fn (.func 40) [] [])) [(.t 26), (.t 27), (.t 29)])⟩,
                 ⟨some 1, none, (.mov (.t 30))⟩])
               (.seq
                (.reg false [1, 2, 3, 18, 19, 32] [
                  ⟨some 31, none, (.mov (.t 1))⟩,
                  ⟨some 32, none, (.bin .lss (.t 31) (.c (.int .i64 0)))⟩])
                (.cond (.t 32)
                 (.seq
                  (.reg false [6] [
                    ⟨some 6, none, (.mov (.c (.int .i64 (-1))))⟩])
                  .ret)
                 .skip)))))
            (.reg false [1, 2, 3, 18, 19] [
              ⟨some 33, none, (.bin .add (.t 19) (.c (.int .i64 1)))⟩,
              ⟨some 19, none, (.mov (.t 33))⟩])))))))
      (.seq
       (.reg false [6] [
         ⟨some 34, none, (.mov (.t 1))⟩,
         ⟨some 6, none, (.mov (.t 34))⟩])
       .ret)))))
theorem of_constraintlaw04_left {vals : List AV} {bs : List Box} {Q : AV → List Box → Prop} (hn : vals.length ≤ 35) (h : (⟨params 0 vals, bs, bs.length⟩ : St).fo true fun s => rc_constraintlaw04_left.go Try.prog true s (retN [.slot 6] Q)) : AM.Sem Try.prog 40 vals bs Q :=
  Sem.of (fn := Try.f40) (keeps := [(0, [1, 2, 3]), (1, [1, 2, 3]), (2, [1, 2, 3, 15]), (3, [6]), (4, [1, 2, 3, 18, 19]), (5, [1, 2, 3, 18, 19, 20]), (6, [1, 2, 3, 7, 18, 19]), (7, [1, 2, 3, 18, 19]), (8, [1, 2, 3, 18, 19, 32]), (9, [6]), (10, [1, 2, 3, 18, 19]), (11, [6])]) (solo := []) Try.func40 rfl (by kernel_rfl) (by kernel_rfl) (by kernel_rfl) hn (run_of h)
theorem op_constraintlaw04_left {vals : List AV} {bs : List Box} {Q : AV → List Box → Prop} (hn : vals.length ≤ 35) (h : (⟨params 0 vals, bs, bs.length⟩ : St).fo true fun s => rc_constraintlaw04_left.gp Try.prog true s (retP [.slot 6] Q)) : AM.Sem Try.prog 40 vals bs Q :=
  Sem.nrm (Sem.of (fn := Try.f40) (keeps := [(0, [1, 2, 3]), (1, [1, 2, 3]), (2, [1, 2, 3, 15]), (3, [6]), (4, [1, 2, 3, 18, 19]), (5, [1, 2, 3, 18, 19, 20]), (6, [1, 2, 3, 7, 18, 19]), (7, [1, 2, 3, 18, 19]), (8, [1, 2, 3, 18, 19, 32]), (9, [6]), (10, [1, 2, 3, 18, 19]), (11, [6])]) (solo := []) Try.func40 rfl (by kernel_rfl) (by kernel_rfl) (by kernel_rfl) hn (run_gp h))

def rc_constraintlaw10_Ints : RC :=
  (.seq
   (.reg false [0, 1] [
     ⟨some 4, none, (.mov (.c (.bool false)))⟩])
   (.seq
    (.seq
     (.reg false [0, 1, 10] [
       ⟨some 6, none, (.mov (.t 0))⟩,
       ⟨some 7, none, (.len false (.t 6))⟩,
       ⟨some 8, none, (.mov (.t 1))⟩,
       ⟨some 9, none, (.len false (.t 8))⟩,
       ⟨some 10, none, (.bin .neq (.t 7) (.t 9))⟩])
     (.cond (.t 10)
      (.seq
       (.reg false [4] [
         ⟨some 4, none, (.mov (.c (.bool false)))⟩])
       .ret)
      .skip))
    (.seq
     (.seq
      (.reg false [0, 1, 12, 13] [
        ⟨some 11, none, (.mov (.t 0))⟩,
        ⟨some 12, none, (.len false (.t 11))⟩,
        ⟨some 13, none, (.mov (.c (.int .i64 0)))⟩])
      (.block 0
       (.loop
        (.seq
         (.reg false [0, 1, 12, 13, 14] [
           ⟨some 14, none, (.bin .lss (.t 13) (.t 12))⟩])
         (.seq
          (.cond (.t 14)
           .skip
           (.exit 0))
          (.seq
           (.block 1
            (.seq
             (.reg false [0, 1, 5, 12, 13] [
               ⟨some 15, none, (.mov (.t 13))⟩,
               ⟨some 5, none, (.mov (.t 15))⟩])
             (.seq
              (.reg true [0, 1, 12, 13, 24] [
                ⟨some 16, none, (.mov (.t 0))⟩,
                ⟨some 17, none, (.mov (.t 5))⟩,
                ⟨some 18, none, (.idx 1 (.t 16) (.t 17))⟩,
                ⟨some 19, none, (.load false 1 (.t 18))⟩,
                ⟨some 20, none, (.mov (.t 1))⟩,
                ⟨some 21, none, (.mov (.t 5))⟩,
                ⟨some 22, none, (.idx 1 (.t 20) (.t 21))⟩,
                ⟨some 23, none, (.load false 1 (.t 22))⟩,
                ⟨some 24, none, (.bin .neq (.t 19) (.t 23))⟩])
              (.cond (.t 24)
               (.seq
                (.reg false [4] [
                  ⟨some 4, none, (.mov (.c (.bool false)))⟩])
                .ret)
               .skip))))
           (.reg false [0, 1, 12, 13] [
             ⟨some 25, none, (.bin .add (.t 13) (.c (.int .i64 1)))⟩,
             ⟨some 13, none, (.mov (.t 25))⟩])))))))
     (.seq
      (.reg false [4] [
        ⟨some 4, none, (.mov (.c (.bool true)))⟩])
      .ret))))
theorem of_constraintlaw10_Ints {vals : List AV} {bs : List Box} {Q : AV → List Box → Prop} (hn : vals.length ≤ 26) (h : (⟨params 0 vals, bs, bs.length⟩ : St).fo true fun s => rc_constraintlaw10_Ints.go Try.prog true s (retN [.slot 4] Q)) : AM.Sem Try.prog 25 vals bs Q :=
  Sem.of (fn := Try.f25) (keeps := [(0, [0, 1]), (1, [0, 1, 10]), (2, [4]), (3, [0, 1, 12, 13]), (4, [0, 1, 12, 13, 14]), (5, [0, 1, 5, 12, 13]), (6, [0, 1, 12, 13, 24]), (7, [4]), (8, [0, 1, 12, 13]), (9, [4])]) (solo := []) Try.func25 rfl (by kernel_rfl) (by kernel_rfl) (by kernel_rfl) hn (run_of h)
theorem op_constraintlaw10_Ints {vals : List AV} {bs : List Box} {Q : AV → List Box → Prop} (hn : vals.length ≤ 26) (h : (⟨params 0 vals, bs, bs.length⟩ : St).fo true fun s => rc_constraintlaw10_Ints.gp Try.prog true s (retP [.slot 4] Q)) : AM.Sem Try.prog 25 vals bs Q :=
  Sem.nrm (Sem.of (fn := Try.f25) (keeps := [(0, [0, 1]), (1, [0, 1, 10]), (2, [4]), (3, [0, 1, 12, 13]), (4, [0, 1, 12, 13, 14]), (5, [0, 1, 5, 12, 13]), (6, [0, 1, 12, 13, 24]), (7, [4]), (8, [0, 1, 12, 13]), (9, [4])]) (solo := []) Try.func25 rfl (by kernel_rfl) (by kernel_rfl) (by kernel_rfl) hn (run_gp h))

theorem ofS_occur_each_1 {vals : List AV} {bs : List Box} {Q : AV → List Box → Prop} (hn : vals.length ≤ 40) (h : (⟨params 0 vals, bs, bs.length⟩ : St).fo false fun s => rc_occur_each_1.go Try.prog false s (retN [] Q)) : AM.Sem Try.prog 50 vals bs Q :=
  Sem.of (fn := Try.f50) (keeps := [(0, [0, 8, 9, 10]), (1, [0, 8, 9, 10, 11]), (2, [0, 3, 4, 8, 9, 10]), (3, [0, 3, 4, 5, 8, 9, 10]), (4, [0, 3, 4, 5, 6, 8, 9, 10]), (5, [0, 3, 4, 5, 6, 8, 9, 10, 21]), (7, [0, 3, 4, 5, 6, 8, 9, 10, 38]), (6, [0, 3, 4, 5, 6, 8, 9, 10]), (8, [0, 8, 9, 10])]) (solo := [(7, 13)]) Try.func50 rfl (by kernel_rfl) (by kernel_rfl) (by kernel_rfl) hn (run_of h)
theorem opS_occur_each_1 {vals : List AV} {bs : List Box} {Q : AV → List Box → Prop} (hn : vals.length ≤ 40) (h : (⟨params 0 vals, bs, bs.length⟩ : St).fo false fun s => rc_occur_each_1.gp Try.prog false s (retP [] Q)) : AM.Sem Try.prog 50 vals bs Q :=
  Sem.nrm (Sem.of (fn := Try.f50) (keeps := [(0, [0, 8, 9, 10]), (1, [0, 8, 9, 10, 11]), (2, [0, 3, 4, 8, 9, 10]), (3, [0, 3, 4, 5, 8, 9, 10]), (4, [0, 3, 4, 5, 6, 8, 9, 10]), (5, [0, 3, 4, 5, 6, 8, 9, 10, 21]), (7, [0, 3, 4, 5, 6, 8, 9, 10, 38]), (6, [0, 3, 4, 5, 6, 8, 9, 10]), (8, [0, 8, 9, 10])]) (solo := [(7, 13)]) Try.func50 rfl (by kernel_rfl) (by kernel_rfl) (by kernel_rfl) hn (run_gp h))

end Go.CK
