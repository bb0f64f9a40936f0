/-
  The abstract code of functions, printed by program (abgen.py, abput2.py).
-/
import Derived.Test.YtemnjmphkmokmaaA1
import Derived.Test.YtemnjmphkmokmaaA2
namespace Go.Ab

/-- posthorn/posthornlaw05.alive -/
def F_posthornlaw05_alive : ACFn := { nt := 53, results := [.tmp 0], body := (
  .seq (
    .region [
      ⟨some 0, .mov (.const (.bool false)), none⟩]) (
    .seq (
      .region [
        ⟨some 11, .lit8 4 [(0, (.const (.b8 46))), (1, (.const (.b8 97))), (2, (.const (.b8 13))), (3, (.const (.b8 10)))], none⟩,
        ⟨some 12, .cSame (.tmp 11), none⟩,
        ⟨some 13, .call (.fn 3) [(.tmp 12)], none⟩,
        ⟨some 10, .mov (.tmp 13), none⟩,
        ⟨some 14, .ext 0 (.tmp 10), none⟩,
        ⟨some 15, .ext 1 (.tmp 10), none⟩,
        ⟨some 1, .mov (.tmp 14), none⟩,
        ⟨some 2, .mov (.tmp 15), none⟩]) (
      .seq (
        .region [
          ⟨some 16, .call (.fn 15) [(.const (.int .i64 10))], none⟩,
          ⟨some 3, .mov (.tmp 16), none⟩]) (
        .seq (
          .region [
            ⟨some 18, .mov (.tmp 3), none⟩,
            ⟨some 19, .lit8 4 [(0, (.const (.b8 46))), (1, (.const (.b8 13))), (2, (.const (.b8 10))), (3, (.const (.b8 120)))], none⟩,
            ⟨some 20, .cSame (.tmp 19), none⟩,
            ⟨some 21, .call (.fn 10) [(.tmp 18), (.tmp 20)], none⟩,
            ⟨some 17, .mov (.tmp 21), none⟩,
            ⟨some 22, .ext 0 (.tmp 17), none⟩,
            ⟨some 23, .ext 1 (.tmp 17), none⟩,
            ⟨some 24, .ext 2 (.tmp 17), none⟩,
            ⟨some 4, .mov (.tmp 22), none⟩,
            ⟨some 5, .mov (.tmp 23), none⟩,
            ⟨some 6, .mov (.tmp 24), none⟩]) (
          .seq (
            .region [
              ⟨some 26, .mov (.tmp 3), none⟩,
              ⟨some 27, .call (.fn 10) [(.tmp 26), (.const (.nils))], none⟩,
              ⟨some 25, .mov (.tmp 27), none⟩,
              ⟨some 28, .ext 0 (.tmp 25), none⟩,
              ⟨some 29, .ext 1 (.tmp 25), none⟩,
              ⟨some 30, .ext 2 (.tmp 25), none⟩,
              ⟨some 7, .mov (.tmp 28), none⟩,
              ⟨some 8, .mov (.tmp 29), none⟩,
              ⟨some 9, .mov (.tmp 30), none⟩]) (
            .seq (
              .region [
                ⟨some 31, .mov (.tmp 1), none⟩,
                ⟨some 32, .cB2S false (.tmp 31), none⟩,
                ⟨some 33, .bin .eql .no (.tmp 32) (.const (.str [46, 46, 97, 13, 10, 46, 13, 10])), none⟩,
                ⟨some 34, .mov (.tmp 33), none⟩,
                ⟨some 35, .mov (.tmp 2), some (34, true)⟩,
                ⟨some 36, .bin .eql .no (.tmp 35) (.const (.int .i64 0)), some (34, true)⟩,
                ⟨some 37, .pick (.tmp 34) (.tmp 36) (.const (.bool false)), none⟩,
                ⟨some 38, .mov (.tmp 37), none⟩,
                ⟨some 39, .mov (.tmp 4), some (38, true)⟩,
                ⟨some 40, .bin .eql .no (.tmp 39) (.const (.int .i64 3)), some (38, true)⟩,
                ⟨some 41, .pick (.tmp 38) (.tmp 40) (.const (.bool false)), none⟩,
                ⟨some 42, .mov (.tmp 41), none⟩,
                ⟨some 43, .mov (.tmp 5), some (42, true)⟩,
                ⟨some 44, .pick (.tmp 42) (.tmp 43) (.const (.bool false)), none⟩,
                ⟨some 45, .mov (.tmp 44), none⟩,
                ⟨some 46, .mov (.tmp 6), some (45, true)⟩,
                ⟨some 47, .bin .eql .no (.tmp 46) (.const (.int .i64 0)), some (45, true)⟩,
                ⟨some 48, .pick (.tmp 45) (.tmp 47) (.const (.bool false)), none⟩,
                ⟨some 49, .mov (.tmp 48), none⟩,
                ⟨some 50, .mov (.tmp 9), some (49, true)⟩,
                ⟨some 51, .bin .eql .no (.tmp 50) (.const (.int .i64 7)), some (49, true)⟩,
                ⟨some 52, .pick (.tmp 49) (.tmp 51) (.const (.bool false)), none⟩,
                ⟨some 0, .mov (.tmp 52), none⟩]) (
              .ret))))))) }

/-- posthorn/dots.Stuff -/
def F_dots_Stuff : ACFn := { nt := 31, results := [.tmp 2, .tmp 3], body := (
  .seq (
    .region [
      ⟨some 2, .mov (.const (.nils)), none⟩,
      ⟨some 3, .mov (.const (.int .i64 0)), none⟩]) (
    .seq (
      .seq (
        .region [
          ⟨some 8, .mov (.tmp 0), none⟩,
          ⟨some 9, .call (.fn 5) [(.tmp 8)], none⟩,
          ⟨some 4, .alloc [.int .i64 0, .int .i64 0], none⟩,
          ⟨none, .store 2 (.tmp 4) (.tmp 9), none⟩]) (
        .seq (
          .region [
            ⟨some 10, .faddr 1 (.tmp 4), none⟩,
            ⟨some 11, .load false 1 (.tmp 10), none⟩,
            ⟨some 12, .bin .neq .no (.tmp 11) (.const (.int .i64 0)), none⟩]) (
          .cond (.tmp 12) (
            .seq (
              .region [
                ⟨some 13, .faddr 1 (.tmp 4), none⟩,
                ⟨some 14, .load false 1 (.tmp 13), none⟩,
                ⟨some 2, .mov (.const (.nils)), none⟩,
                ⟨some 3, .mov (.tmp 14), none⟩]) (
              .ret)) (
            .skip)))) (
      .seq (
        .region [
          ⟨some 5, .alloc [.nils], none⟩]) (
        .seq (
          .seq (
            .region [
              ⟨some 15, .mov (.tmp 0), none⟩,
              ⟨some 16, .call (.fn 18) [(.tmp 15)], none⟩]) (
            .block 0 (
              .rangeFunc (.tmp 16) [17, 18] (
                .region [
                  ⟨some 7, .mov (.tmp 18), none⟩]) (
                .block 1 (
                  .seq (
                    .seq (
                      .region [
                        ⟨some 19, .mov (.tmp 7), none⟩,
                        ⟨some 20, .iaddr 1 (.tmp 19) (.const (.int .i64 0)), none⟩,
                        ⟨some 21, .load false 1 (.tmp 20), none⟩,
                        ⟨some 22, .bin .eql .no (.tmp 21) (.const (.b8 46)), none⟩]) (
                      .cond (.tmp 22) (
                        .region [
                          ⟨some 23, .load false 1 (.tmp 5), none⟩,
                          ⟨some 24, .lit8 1 [(0, (.const (.b8 46)))], none⟩,
                          ⟨some 25, .app true 1 (.tmp 23) (.tmp 24), none⟩,
                          ⟨none, .store 1 (.tmp 5) (.tmp 25), none⟩]) (
                        .skip))) (
                    .region [
                      ⟨some 26, .load false 1 (.tmp 5), none⟩,
                      ⟨some 27, .mov (.tmp 7), none⟩,
                      ⟨some 28, .app true 1 (.tmp 26) (.tmp 27), none⟩,
                      ⟨none, .store 1 (.tmp 5) (.tmp 28), none⟩])))))) (
          .seq (
            .region [
              ⟨some 29, .load false 1 (.tmp 5), none⟩,
              ⟨some 30, .app true 1 (.tmp 29) (.const (.str [46, 13, 10])), none⟩,
              ⟨some 2, .mov (.tmp 30), none⟩,
              ⟨some 3, .mov (.const (.int .i64 0)), none⟩]) (
            .ret)))))) }

/-- posthorn/posthornref05.Stuff -/
def F_posthornref05_Stuff : ACFn := { nt := 56, results := [.tmp 2, .tmp 3], body := (
  .seq (
    .region [
      ⟨some 2, .mov (.const (.nils)), none⟩,
      ⟨some 3, .mov (.const (.int .i64 0)), none⟩]) (
    .seq (
      .region [
        ⟨some 8, .mov (.tmp 0), none⟩,
        ⟨some 9, .call (.fn 6) [(.tmp 8)], none⟩,
        ⟨some 4, .alloc [.int .i64 0, .int .i64 0], none⟩,
        ⟨none, .store 2 (.tmp 4) (.tmp 9), none⟩]) (
      .seq (
        .seq (
          .region [
            ⟨some 10, .faddr 1 (.tmp 4), none⟩,
            ⟨some 11, .load false 1 (.tmp 10), none⟩,
            ⟨some 12, .bin .neq .no (.tmp 11) (.const (.int .i64 0)), none⟩]) (
          .cond (.tmp 12) (
            .seq (
              .region [
                ⟨some 13, .faddr 1 (.tmp 4), none⟩,
                ⟨some 14, .load false 1 (.tmp 13), none⟩,
                ⟨some 2, .mov (.const (.nils)), none⟩,
                ⟨some 3, .mov (.tmp 14), none⟩]) (
              .ret)) (
            .skip))) (
        .seq (
          .region [
            ⟨some 15, .mov (.tmp 0), none⟩,
            ⟨some 16, .call (.fn 8) [(.tmp 15)], none⟩,
            ⟨some 5, .mov (.tmp 16), none⟩]) (
          .seq (
            .region [
              ⟨some 6, .mov (.const (.nils)), none⟩]) (
            .seq (
              .seq (
                .region [
                  ⟨some 7, .mov (.const (.int .i64 0)), none⟩]) (
                .block 0 (
                  .loop (
                    .seq (
                      .seq (
                        .region [
                          ⟨some 17, .mov (.tmp 7), none⟩,
                          ⟨some 18, .mov (.tmp 5), none⟩,
                          ⟨some 19, .len false (.tmp 18), none⟩,
                          ⟨some 20, .bin .lss .no (.tmp 17) (.tmp 19), none⟩]) (
                        .cond (.tmp 20) (
                          .skip) (
                          .exit 0))) (
                      .seq (
                        .block 1 (
                          .seq (
                            .seq (
                              .region [
                                ⟨some 23, .mov (.tmp 5), none⟩,
                                ⟨some 24, .mov (.tmp 7), none⟩,
                                ⟨some 25, .iaddr 3 (.tmp 23) (.tmp 24), none⟩,
                                ⟨some 26, .faddr 1 (.tmp 25), none⟩,
                                ⟨some 27, .load false 1 (.tmp 26), none⟩,
                                ⟨some 28, .len false (.tmp 27), none⟩,
                                ⟨some 29, .bin .gtr .no (.tmp 28) (.const (.int .i64 0)), none⟩,
                                ⟨some 30, .mov (.tmp 29), none⟩,
                                ⟨some 31, .mov (.tmp 5), some (30, true)⟩,
                                ⟨some 32, .mov (.tmp 7), some (30, true)⟩,
                                ⟨some 33, .iaddr 3 (.tmp 31) (.tmp 32), some (30, true)⟩,
                                ⟨some 34, .faddr 1 (.tmp 33), some (30, true)⟩,
                                ⟨some 35, .load false 1 (.tmp 34), some (30, true)⟩,
                                ⟨some 36, .iaddr 1 (.tmp 35) (.const (.int .i64 0)), some (30, true)⟩,
                                ⟨some 37, .load false 1 (.tmp 36), some (30, true)⟩,
                                ⟨some 38, .bin .eql .no (.tmp 37) (.const (.b8 46)), some (30, true)⟩,
                                ⟨some 39, .pick (.tmp 30) (.tmp 38) (.const (.bool false)), none⟩]) (
                              .cond (.tmp 39) (
                                .region [
                                  ⟨some 40, .mov (.tmp 6), none⟩,
                                  ⟨some 41, .lit8 1 [(0, (.const (.b8 46)))], none⟩,
                                  ⟨some 42, .app true 1 (.tmp 40) (.tmp 41), none⟩,
                                  ⟨some 6, .mov (.tmp 42), none⟩]) (
                                .skip))) (
                            .seq (
                              .region [
                                ⟨some 43, .mov (.tmp 6), none⟩,
                                ⟨some 44, .mov (.tmp 5), none⟩,
                                ⟨some 45, .mov (.tmp 7), none⟩,
                                ⟨some 46, .iaddr 3 (.tmp 44) (.tmp 45), none⟩,
                                ⟨some 47, .faddr 1 (.tmp 46), none⟩,
                                ⟨some 48, .load false 1 (.tmp 47), none⟩,
                                ⟨some 49, .app true 1 (.tmp 43) (.tmp 48), none⟩,
                                ⟨some 6, .mov (.tmp 49), none⟩]) (
                              .region [
                                ⟨some 50, .mov (.tmp 6), none⟩,
                                ⟨some 51, .lit8 2 [(0, (.const (.b8 13))), (1, (.const (.b8 10)))], none⟩,
                                ⟨some 52, .app true 1 (.tmp 50) (.tmp 51), none⟩,
                                ⟨some 6, .mov (.tmp 52), none⟩])))) (
                        .region [
                          ⟨some 21, .mov (.tmp 7), none⟩,
                          ⟨some 22, .bin .add .no (.tmp 21) (.const (.int .i64 1)), none⟩,
                          ⟨some 7, .mov (.tmp 22), none⟩])))))) (
              .seq (
                .region [
                  ⟨some 53, .mov (.tmp 6), none⟩,
                  ⟨some 54, .lit8 3 [(0, (.const (.b8 46))), (1, (.const (.b8 13))), (2, (.const (.b8 10)))], none⟩,
                  ⟨some 55, .app true 1 (.tmp 53) (.tmp 54), none⟩,
                  ⟨some 2, .mov (.tmp 55), none⟩,
                  ⟨some 3, .mov (.const (.int .i64 0)), none⟩]) (
                .ret)))))))) }

/-- posthorn/dots.Right -/
def F_dots_Right : ACFn := { nt := 45, results := [.cell 2 true 2], body := (
  .seq (
    .region [
      ⟨some 1, .box (.tmp 0), none⟩,
      ⟨some 2, .alloc [.int .i64 0, .int .i64 0], none⟩]) (
    .scope (
      .seq (
        .region [
          ⟨some 3, .alloc [.int .i64 0, .int .i64 0], none⟩]) (
        .seq (
          .label 0) (
          .seq (
            .seq (
              .region [
                ⟨some 9, .load false 1 (.tmp 1), none⟩,
                ⟨some 10, .call (.fn 18) [(.tmp 9)], none⟩]) (
              .block 0 (
                .rangeFunc (.tmp 10) [11, 12] (
                  .seq (
                    .region [
                      ⟨some 4, .mov (.tmp 11), none⟩]) (
                    .region [
                      ⟨some 5, .mov (.tmp 12), none⟩])) (
                  .block 1 (
                    .seq (
                      .region [
                        ⟨some 14, .mov (.tmp 5), none⟩,
                        ⟨some 15, .lit8 2 [(0, (.const (.b8 13))), (1, (.const (.b8 10)))], none⟩,
                        ⟨some 16, .cSame (.tmp 15), none⟩,
                        ⟨some 17, .call (.fn 19) [(.tmp 14), (.tmp 16)], none⟩,
                        ⟨some 13, .mov (.tmp 17), none⟩,
                        ⟨some 18, .ext 0 (.tmp 13), none⟩,
                        ⟨some 19, .ext 1 (.tmp 13), none⟩,
                        ⟨some 6, .mov (.tmp 18), none⟩,
                        ⟨some 7, .mov (.tmp 19), none⟩]) (
                      .seq (
                        .region [
                          ⟨some 20, .mov (.tmp 6), none⟩,
                          ⟨some 21, .call (.fn 20) [(.tmp 20)], none⟩,
                          ⟨some 8, .mov (.tmp 21), none⟩]) (
                        .seq (
                          .block 2 (
                            .seq (
                              .region [
                                ⟨some 23, .mov (.tmp 8), none⟩,
                                ⟨some 24, .bin .geq .no (.tmp 23) (.const (.int .i64 0)), none⟩,
                                ⟨some 22, .mov (.tmp 24), none⟩]) (
                              .cond (.tmp 22) (
                                .region [
                                  ⟨some 25, .mov (.tmp 4), none⟩,
                                  ⟨some 26, .mov (.tmp 8), none⟩,
                                  ⟨some 27, .bin .add .no (.tmp 25) (.tmp 26), none⟩,
                                  ⟨some 28, .build [.int .i64 0, .int .i64 0] [(0, 1, (.tmp 27)), (1, 1, (.const (.int .i64 41)))], none⟩,
                                  ⟨none, .store 2 (.tmp 3) (.tmp 28), none⟩]) (
                                .seq (
                                  .region [
                                    ⟨some 30, .mov (.tmp 6), none⟩,
                                    ⟨some 31, .len false (.tmp 30), none⟩,
                                    ⟨some 32, .bin .gtr .no (.tmp 31) (.const (.int .i64 998)), none⟩,
                                    ⟨some 29, .mov (.tmp 32), none⟩]) (
                                  .cond (.tmp 29) (
                                    .region [
                                      ⟨some 33, .mov (.tmp 4), none⟩,
                                      ⟨some 34, .build [.int .i64 0, .int .i64 0] [(0, 1, (.tmp 33)), (1, 1, (.const (.int .i64 40)))], none⟩,
                                      ⟨none, .store 2 (.tmp 3) (.tmp 34), none⟩]) (
                                    .seq (
                                      .region [
                                        ⟨some 36, .mov (.tmp 7), none⟩,
                                        ⟨some 37, .un .not (.tmp 36), none⟩,
                                        ⟨some 35, .mov (.tmp 37), none⟩]) (
                                      .cond (.tmp 35) (
                                        .region [
                                          ⟨some 38, .load false 1 (.tmp 1), none⟩,
                                          ⟨some 39, .len false (.tmp 38), none⟩,
                                          ⟨some 40, .build [.int .i64 0, .int .i64 0] [(0, 1, (.tmp 39)), (1, 1, (.const (.int .i64 42)))], none⟩,
                                          ⟨none, .store 2 (.tmp 3) (.tmp 40), none⟩]) (
                                        .skip)))))))) (
                          .seq (
                            .region [
                              ⟨some 41, .faddr 1 (.tmp 3), none⟩,
                              ⟨some 42, .load false 1 (.tmp 41), none⟩,
                              ⟨some 43, .bin .neq .no (.tmp 42) (.const (.int .i64 0)), none⟩]) (
                            .cond (.tmp 43) (
                              .exit 0) (
                              .skip)))))))))) (
            .seq (
              .region [
                ⟨some 44, .load true 2 (.tmp 3), none⟩,
                ⟨none, .store 2 (.tmp 2) (.tmp 44), none⟩]) (
              .ret))))))) }

/-- posthorn/posthornref05.Right -/
def F_posthornref05_Right : ACFn := { nt := 53, results := [.cell 2 true 2], body := (
  .seq (
    .region [
      ⟨some 2, .alloc [.int .i64 0, .int .i64 0], none⟩]) (
    .seq (
      .region [
        ⟨some 6, .mov (.tmp 0), none⟩,
        ⟨some 7, .call (.fn 8) [(.tmp 6)], none⟩,
        ⟨some 3, .mov (.tmp 7), none⟩]) (
      .seq (
        .seq (
          .region [
            ⟨some 4, .mov (.const (.int .i64 0)), none⟩]) (
          .block 0 (
            .loop (
              .seq (
                .seq (
                  .region [
                    ⟨some 8, .mov (.tmp 4), none⟩,
                    ⟨some 9, .mov (.tmp 3), none⟩,
                    ⟨some 10, .len false (.tmp 9), none⟩,
                    ⟨some 11, .bin .lss .no (.tmp 8) (.tmp 10), none⟩]) (
                  .cond (.tmp 11) (
                    .skip) (
                    .exit 0))) (
                .seq (
                  .block 1 (
                    .seq (
                      .region [
                        ⟨some 14, .mov (.tmp 3), none⟩,
                        ⟨some 15, .mov (.tmp 4), none⟩,
                        ⟨some 16, .iaddr 3 (.tmp 14) (.tmp 15), none⟩,
                        ⟨some 17, .faddr 1 (.tmp 16), none⟩,
                        ⟨some 18, .load false 1 (.tmp 17), none⟩,
                        ⟨some 19, .call (.fn 21) [(.tmp 18)], none⟩,
                        ⟨some 5, .mov (.tmp 19), none⟩]) (
                      .seq (
                        .seq (
                          .region [
                            ⟨some 20, .mov (.tmp 5), none⟩,
                            ⟨some 21, .bin .geq .no (.tmp 20) (.const (.int .i64 0)), none⟩]) (
                          .cond (.tmp 21) (
                            .seq (
                              .region [
                                ⟨some 22, .mov (.tmp 3), none⟩,
                                ⟨some 23, .mov (.tmp 4), none⟩,
                                ⟨some 24, .iaddr 3 (.tmp 22) (.tmp 23), none⟩,
                                ⟨some 25, .faddr 0 (.tmp 24), none⟩,
                                ⟨some 26, .load false 1 (.tmp 25), none⟩,
                                ⟨some 27, .mov (.tmp 5), none⟩,
                                ⟨some 28, .bin .add .no (.tmp 26) (.tmp 27), none⟩,
                                ⟨some 29, .build [.int .i64 0, .int .i64 0] [(0, 1, (.tmp 28)), (1, 1, (.const (.int .i64 41)))], none⟩,
                                ⟨none, .store 2 (.tmp 2) (.tmp 29), none⟩]) (
                              .ret)) (
                            .skip))) (
                        .seq (
                          .seq (
                            .region [
                              ⟨some 30, .mov (.tmp 3), none⟩,
                              ⟨some 31, .mov (.tmp 4), none⟩,
                              ⟨some 32, .iaddr 3 (.tmp 30) (.tmp 31), none⟩,
                              ⟨some 33, .faddr 1 (.tmp 32), none⟩,
                              ⟨some 34, .load false 1 (.tmp 33), none⟩,
                              ⟨some 35, .len false (.tmp 34), none⟩,
                              ⟨some 36, .bin .gtr .no (.tmp 35) (.const (.int .i64 998)), none⟩]) (
                            .cond (.tmp 36) (
                              .seq (
                                .region [
                                  ⟨some 37, .mov (.tmp 3), none⟩,
                                  ⟨some 38, .mov (.tmp 4), none⟩,
                                  ⟨some 39, .iaddr 3 (.tmp 37) (.tmp 38), none⟩,
                                  ⟨some 40, .faddr 0 (.tmp 39), none⟩,
                                  ⟨some 41, .load false 1 (.tmp 40), none⟩,
                                  ⟨some 42, .build [.int .i64 0, .int .i64 0] [(0, 1, (.tmp 41)), (1, 1, (.const (.int .i64 40)))], none⟩,
                                  ⟨none, .store 2 (.tmp 2) (.tmp 42), none⟩]) (
                                .ret)) (
                              .skip))) (
                          .seq (
                            .region [
                              ⟨some 43, .mov (.tmp 3), none⟩,
                              ⟨some 44, .mov (.tmp 4), none⟩,
                              ⟨some 45, .iaddr 3 (.tmp 43) (.tmp 44), none⟩,
                              ⟨some 46, .faddr 2 (.tmp 45), none⟩,
                              ⟨some 47, .load false 1 (.tmp 46), none⟩,
                              ⟨some 48, .un .not (.tmp 47), none⟩]) (
                            .cond (.tmp 48) (
                              .seq (
                                .region [
                                  ⟨some 49, .mov (.tmp 0), none⟩,
                                  ⟨some 50, .len false (.tmp 49), none⟩,
                                  ⟨some 51, .build [.int .i64 0, .int .i64 0] [(0, 1, (.tmp 50)), (1, 1, (.const (.int .i64 42)))], none⟩,
                                  ⟨none, .store 2 (.tmp 2) (.tmp 51), none⟩]) (
                                .ret)) (
                              .skip))))))) (
                  .region [
                    ⟨some 12, .mov (.tmp 4), none⟩,
                    ⟨some 13, .bin .add .no (.tmp 12) (.const (.int .i64 1)), none⟩,
                    ⟨some 4, .mov (.tmp 13), none⟩])))))) (
        .seq (
          .region [
            ⟨some 52, .build [.int .i64 0, .int .i64 0] [], none⟩,
            ⟨none, .store 2 (.tmp 2) (.tmp 52), none⟩]) (
          .ret))))) }

/-- posthorn/posthornref05.Lines -/
def F_posthornref05_Lines : ACFn := { nt := 41, results := [.tmp 2], body := (
  .seq (
    .region [
      ⟨some 2, .mov (.const (.nils)), none⟩]) (
    .seq (
      .region [
        ⟨some 3, .mov (.const (.nils)), none⟩]) (
      .seq (
        .region [
          ⟨some 4, .mov (.const (.int .i64 0)), none⟩]) (
        .seq (
          .seq (
            .region [
              ⟨some 5, .mov (.const (.int .i64 0)), none⟩]) (
            .block 0 (
              .loop (
                .seq (
                  .seq (
                    .region [
                      ⟨some 6, .mov (.tmp 5), none⟩,
                      ⟨some 7, .mov (.tmp 0), none⟩,
                      ⟨some 8, .len false (.tmp 7), none⟩,
                      ⟨some 9, .bin .lss .no (.tmp 6) (.tmp 8), none⟩]) (
                    .cond (.tmp 9) (
                      .skip) (
                      .exit 0))) (
                  .seq (
                    .block 1 (
                      .seq (
                        .region [
                          ⟨some 12, .mov (.tmp 0), none⟩,
                          ⟨some 13, .mov (.tmp 5), none⟩,
                          ⟨some 14, .call (.fn 22) [(.tmp 12), (.tmp 13)], none⟩]) (
                        .cond (.tmp 14) (
                          .seq (
                            .region [
                              ⟨some 15, .mov (.tmp 3), none⟩,
                              ⟨some 16, .mov (.tmp 4), none⟩,
                              ⟨some 17, .mov (.tmp 0), none⟩,
                              ⟨some 18, .mov (.tmp 4), none⟩,
                              ⟨some 19, .mov (.tmp 5), none⟩,
                              ⟨some 20, .slc 1 (.tmp 17) (some (.tmp 18)) (some (.tmp 19)) none, none⟩,
                              ⟨some 21, .build [.int .i64 0, .nils, .bool false] [(0, 1, (.tmp 16)), (1, 1, (.tmp 20)), (2, 1, (.const (.bool true)))], none⟩,
                              ⟨some 22, .lit 3 (.agg [.int .i64 0, .nils, .bool false]) 1 [(0, (.tmp 21))], none⟩,
                              ⟨some 23, .app false 3 (.tmp 15) (.tmp 22), none⟩,
                              ⟨some 3, .mov (.tmp 23), none⟩]) (
                            .seq (
                              .region [
                                ⟨some 24, .mov (.tmp 5), none⟩,
                                ⟨some 25, .bin .add .no (.tmp 24) (.const (.int .i64 1)), none⟩,
                                ⟨some 5, .mov (.tmp 25), none⟩]) (
                              .region [
                                ⟨some 26, .mov (.tmp 5), none⟩,
                                ⟨some 27, .bin .add .no (.tmp 26) (.const (.int .i64 1)), none⟩,
                                ⟨some 4, .mov (.tmp 27), none⟩]))) (
                          .skip)))) (
                    .region [
                      ⟨some 10, .mov (.tmp 5), none⟩,
                      ⟨some 11, .bin .add .no (.tmp 10) (.const (.int .i64 1)), none⟩,
                      ⟨some 5, .mov (.tmp 11), none⟩])))))) (
          .seq (
            .seq (
              .region [
                ⟨some 28, .mov (.tmp 4), none⟩,
                ⟨some 29, .mov (.tmp 0), none⟩,
                ⟨some 30, .len false (.tmp 29), none⟩,
                ⟨some 31, .bin .lss .no (.tmp 28) (.tmp 30), none⟩]) (
              .cond (.tmp 31) (
                .region [
                  ⟨some 32, .mov (.tmp 3), none⟩,
                  ⟨some 33, .mov (.tmp 4), none⟩,
                  ⟨some 34, .mov (.tmp 0), none⟩,
                  ⟨some 35, .mov (.tmp 4), none⟩,
                  ⟨some 36, .slc 1 (.tmp 34) (some (.tmp 35)) none none, none⟩,
                  ⟨some 37, .build [.int .i64 0, .nils, .bool false] [(0, 1, (.tmp 33)), (1, 1, (.tmp 36)), (2, 1, (.const (.bool false)))], none⟩,
                  ⟨some 38, .lit 3 (.agg [.int .i64 0, .nils, .bool false]) 1 [(0, (.tmp 37))], none⟩,
                  ⟨some 39, .app false 3 (.tmp 32) (.tmp 38), none⟩,
                  ⟨some 3, .mov (.tmp 39), none⟩]) (
                .skip))) (
            .seq (
              .region [
                ⟨some 40, .mov (.tmp 3), none⟩,
                ⟨some 2, .mov (.tmp 40), none⟩]) (
              .ret))))))) }

/-- (*posthorn/dots.Reader).Put -/
def F_P_dots_Reader_Put : ACFn := { nt := 70, results := [.tmp 4, .tmp 5, .tmp 6], body := (
  .seq (
    .region [
      ⟨some 4, .mov (.const (.int .i64 0)), none⟩,
      ⟨some 5, .mov (.const (.bool false)), none⟩,
      ⟨some 6, .mov (.const (.int .i64 0)), none⟩]) (
    .seq (
      .seq (
        .region [
          ⟨some 11, .mov (.tmp 0), none⟩,
          ⟨some 12, .bin .eql .ptr (.tmp 11) (.const (.nilp)), none⟩,
          ⟨some 13, .mov (.tmp 12), none⟩,
          ⟨some 14, .mov (.tmp 0), some (13, false)⟩,
          ⟨some 15, .nilck (.tmp 14), some (13, false)⟩,
          ⟨some 16, .faddr 6 (.tmp 15), some (13, false)⟩,
          ⟨some 17, .load false 1 (.tmp 16), some (13, false)⟩,
          ⟨some 18, .pick (.tmp 13) (.const (.bool true)) (.tmp 17), none⟩]) (
        .cond (.tmp 18) (
          .seq (
            .region [
              ⟨some 4, .mov (.const (.int .i64 0)), none⟩,
              ⟨some 5, .mov (.const (.bool false)), none⟩,
              ⟨some 6, .mov (.const (.int .i64 7)), none⟩]) (
            .ret)) (
          .skip))) (
      .seq (
        .seq (
          .region [
            ⟨some 19, .mov (.tmp 1), none⟩,
            ⟨some 20, .len false (.tmp 19), none⟩,
            ⟨some 21, .mov (.const (.int .i64 0)), none⟩]) (
          .block 0 (
            .loop (
              .seq (
                .region [
                  ⟨some 22, .bin .lss .no (.tmp 21) (.tmp 20), none⟩]) (
                .seq (
                  .cond (.tmp 22) (
                    .skip) (
                    .exit 0)) (
                  .seq (
                    .block 1 (
                      .seq (
                        .region [
                          ⟨some 23, .mov (.tmp 21), none⟩,
                          ⟨some 24, .iaddr 1 (.tmp 19) (.tmp 21), none⟩,
                          ⟨some 25, .load false 1 (.tmp 24), none⟩,
                          ⟨some 7, .mov (.tmp 23), none⟩,
                          ⟨some 8, .mov (.tmp 25), none⟩]) (
                        .seq (
                          .region [
                            ⟨some 26, .mov (.tmp 0), none⟩,
                            ⟨some 27, .mov (.tmp 0), none⟩,
                            ⟨some 28, .nilck (.tmp 27), none⟩,
                            ⟨some 29, .faddr 1 (.tmp 28), none⟩,
                            ⟨some 30, .load false 1 (.tmp 29), none⟩,
                            ⟨some 31, .mov (.tmp 8), none⟩,
                            ⟨some 32, .lit8 1 [(0, (.tmp 31))], none⟩,
                            ⟨some 33, .app true 1 (.tmp 30) (.tmp 32), none⟩,
                            ⟨some 34, .nilck (.tmp 26), none⟩,
                            ⟨some 35, .faddr 1 (.tmp 34), none⟩,
                            ⟨none, .store 1 (.tmp 35) (.tmp 33), none⟩]) (
                          .seq (
                            .region [
                              ⟨some 37, .mov (.tmp 0), none⟩,
                              ⟨some 38, .nilck (.tmp 37), none⟩,
                              ⟨some 39, .faddr 1 (.tmp 38), none⟩,
                              ⟨some 40, .load false 1 (.tmp 39), none⟩,
                              ⟨some 41, .lit8 2 [(0, (.const (.b8 13))), (1, (.const (.b8 10)))], none⟩,
                              ⟨some 42, .cSame (.tmp 41), none⟩,
                              ⟨some 43, .call (.fn 19) [(.tmp 40), (.tmp 42)], none⟩,
                              ⟨some 36, .mov (.tmp 43), none⟩,
                              ⟨some 44, .ext 0 (.tmp 36), none⟩,
                              ⟨some 45, .ext 1 (.tmp 36), none⟩,
                              ⟨some 9, .mov (.tmp 44), none⟩,
                              ⟨some 10, .mov (.tmp 45), none⟩]) (
                            .seq (
                              .region [
                                ⟨some 46, .mov (.tmp 10), none⟩]) (
                              .cond (.tmp 46) (
                                .seq (
                                  .region [
                                    ⟨some 47, .mov (.tmp 0), none⟩,
                                    ⟨some 48, .nilck (.tmp 47), none⟩,
                                    ⟨some 49, .faddr 1 (.tmp 48), none⟩,
                                    ⟨none, .store 1 (.tmp 49) (.const (.nils)), none⟩]) (
                                  .seq (
                                    .seq (
                                      .region [
                                        ⟨some 50, .mov (.tmp 0), none⟩,
                                        ⟨some 51, .mov (.tmp 9), none⟩,
                                        ⟨some 52, .cB2S false (.tmp 51), none⟩,
                                        ⟨some 53, .bin .eql .no (.tmp 52) (.const (.str [46])), none⟩,
                                        ⟨some 54, .nilck (.tmp 50), none⟩,
                                        ⟨some 55, .faddr 6 (.tmp 54), none⟩,
                                        ⟨none, .store 1 (.tmp 55) (.tmp 53), none⟩]) (
                                      .seq (
                                        .region [
                                          ⟨some 56, .mov (.tmp 0), none⟩,
                                          ⟨some 57, .nilck (.tmp 56), none⟩,
                                          ⟨some 58, .faddr 6 (.tmp 57), none⟩,
                                          ⟨some 59, .load false 1 (.tmp 58), none⟩]) (
                                        .cond (.tmp 59) (
                                          .seq (
                                            .region [
                                              ⟨some 60, .mov (.tmp 7), none⟩,
                                              ⟨some 61, .bin .add .no (.tmp 60) (.const (.int .i64 1)), none⟩,
                                              ⟨some 62, .mov (.tmp 0), none⟩,
                                              ⟨some 63, .call (.fn 23) [(.tmp 62)], none⟩,
                                              ⟨some 4, .mov (.tmp 61), none⟩,
                                              ⟨some 5, .mov (.const (.bool true)), none⟩,
                                              ⟨some 6, .mov (.tmp 63), none⟩]) (
                                            .ret)) (
                                          .skip)))) (
                                    .region [
                                      ⟨some 64, .mov (.tmp 0), none⟩,
                                      ⟨some 65, .mov (.tmp 9), none⟩,
                                      ⟨some 66, .call (.fn 24) [(.tmp 64), (.tmp 65)], none⟩]))) (
                                .skip))))))) (
                    .region [
                      ⟨some 67, .bin .add .no (.tmp 21) (.const (.int .i64 1)), none⟩,
                      ⟨some 21, .mov (.tmp 67), none⟩]))))))) (
        .seq (
          .region [
            ⟨some 68, .mov (.tmp 1), none⟩,
            ⟨some 69, .len false (.tmp 68), none⟩,
            ⟨some 4, .mov (.tmp 69), none⟩,
            ⟨some 5, .mov (.const (.bool false)), none⟩,
            ⟨some 6, .mov (.const (.int .i64 0)), none⟩]) (
          .ret))))) }

/-- posthorn/posthornref05.Frame -/
def F_posthornref05_Frame : ACFn := { nt := 117, results := [.tmp 4, .tmp 5, .tmp 6, .tmp 7], body := (
  .seq (
    .region [
      ⟨some 4, .mov (.const (.int .i64 0)), none⟩,
      ⟨some 5, .mov (.const (.bool false)), none⟩,
      ⟨some 6, .mov (.const (.int .i64 0)), none⟩,
      ⟨some 7, .mov (.const (.nils)), none⟩]) (
    .seq (
      .region [
        ⟨some 16, .mov (.tmp 1), none⟩,
        ⟨some 17, .call (.fn 8) [(.tmp 16)], none⟩,
        ⟨some 8, .mov (.tmp 17), none⟩]) (
      .seq (
        .region [
          ⟨some 9, .mov (.const (.nils)), none⟩]) (
        .seq (
          .region [
            ⟨some 10, .mov (.const (.bool false)), none⟩,
            ⟨some 11, .mov (.const (.bool false)), none⟩,
            ⟨some 12, .mov (.const (.bool false)), none⟩]) (
          .seq (
            .seq (
              .region [
                ⟨some 18, .mov (.tmp 0), none⟩,
                ⟨some 19, .bin .lss .no (.tmp 18) (.const (.int .i64 0)), none⟩]) (
              .cond (.tmp 19) (
                .region [
                  ⟨some 0, .mov (.const (.int .i64 0)), none⟩]) (
                .skip))) (
            .seq (
              .seq (
                .region [
                  ⟨some 13, .mov (.const (.int .i64 0)), none⟩]) (
                .block 0 (
                  .loop (
                    .seq (
                      .seq (
                        .region [
                          ⟨some 20, .mov (.tmp 13), none⟩,
                          ⟨some 21, .mov (.tmp 8), none⟩,
                          ⟨some 22, .len false (.tmp 21), none⟩,
                          ⟨some 23, .bin .lss .no (.tmp 20) (.tmp 22), none⟩,
                          ⟨some 24, .mov (.tmp 23), none⟩,
                          ⟨some 25, .mov (.tmp 8), some (24, true)⟩,
                          ⟨some 26, .mov (.tmp 13), some (24, true)⟩,
                          ⟨some 27, .iaddr 3 (.tmp 25) (.tmp 26), some (24, true)⟩,
                          ⟨some 28, .faddr 2 (.tmp 27), some (24, true)⟩,
                          ⟨some 29, .load false 1 (.tmp 28), some (24, true)⟩,
                          ⟨some 30, .pick (.tmp 24) (.tmp 29) (.const (.bool false)), none⟩]) (
                        .cond (.tmp 30) (
                          .skip) (
                          .exit 0))) (
                      .seq (
                        .block 1 (
                          .seq (
                            .region [
                              ⟨some 33, .mov (.tmp 8), none⟩,
                              ⟨some 34, .mov (.tmp 13), none⟩,
                              ⟨some 35, .iaddr 3 (.tmp 33) (.tmp 34), none⟩,
                              ⟨some 36, .faddr 1 (.tmp 35), none⟩,
                              ⟨some 37, .load false 1 (.tmp 36), none⟩,
                              ⟨some 14, .mov (.tmp 37), none⟩]) (
                            .seq (
                              .seq (
                                .region [
                                  ⟨some 38, .mov (.tmp 14), none⟩,
                                  ⟨some 39, .len false (.tmp 38), none⟩,
                                  ⟨some 40, .bin .eql .no (.tmp 39) (.const (.int .i64 1)), none⟩,
                                  ⟨some 41, .mov (.tmp 40), none⟩,
                                  ⟨some 42, .mov (.tmp 14), some (41, true)⟩,
                                  ⟨some 43, .iaddr 1 (.tmp 42) (.const (.int .i64 0)), some (41, true)⟩,
                                  ⟨some 44, .load false 1 (.tmp 43), some (41, true)⟩,
                                  ⟨some 45, .bin .eql .no (.tmp 44) (.const (.b8 46)), some (41, true)⟩,
                                  ⟨some 46, .pick (.tmp 41) (.tmp 45) (.const (.bool false)), none⟩]) (
                                .cond (.tmp 46) (
                                  .seq (
                                    .region [
                                      ⟨some 47, .mov (.tmp 10), none⟩,
                                      ⟨some 48, .mov (.tmp 11), none⟩,
                                      ⟨some 49, .mov (.tmp 12), none⟩,
                                      ⟨some 50, .call (.fn 25) [(.tmp 47), (.tmp 48), (.tmp 49)], none⟩,
                                      ⟨some 15, .mov (.tmp 50), none⟩]) (
                                    .seq (
                                      .seq (
                                        .region [
                                          ⟨some 51, .mov (.tmp 15), none⟩,
                                          ⟨some 52, .bin .neq .no (.tmp 51) (.const (.int .i64 0)), none⟩]) (
                                        .cond (.tmp 52) (
                                          .region [
                                            ⟨some 9, .mov (.const (.nils)), none⟩]) (
                                          .skip))) (
                                      .seq (
                                        .region [
                                          ⟨some 53, .mov (.tmp 8), none⟩,
                                          ⟨some 54, .mov (.tmp 13), none⟩,
                                          ⟨some 55, .iaddr 3 (.tmp 53) (.tmp 54), none⟩,
                                          ⟨some 56, .faddr 0 (.tmp 55), none⟩,
                                          ⟨some 57, .load false 1 (.tmp 56), none⟩,
                                          ⟨some 58, .bin .add .no (.tmp 57) (.const (.int .i64 3)), none⟩,
                                          ⟨some 59, .mov (.tmp 15), none⟩,
                                          ⟨some 60, .mov (.tmp 9), none⟩,
                                          ⟨some 4, .mov (.tmp 58), none⟩,
                                          ⟨some 5, .mov (.const (.bool true)), none⟩,
                                          ⟨some 6, .mov (.tmp 59), none⟩,
                                          ⟨some 7, .mov (.tmp 60), none⟩]) (
                                        .ret)))) (
                                  .skip))) (
                              .seq (
                                .region [
                                  ⟨some 61, .mov (.tmp 10), none⟩,
                                  ⟨some 62, .mov (.tmp 61), none⟩,
                                  ⟨some 63, .mov (.tmp 14), some (62, false)⟩,
                                  ⟨some 64, .call (.fn 21) [(.tmp 63)], some (62, false)⟩,
                                  ⟨some 65, .bin .geq .no (.tmp 64) (.const (.int .i64 0)), some (62, false)⟩,
                                  ⟨some 66, .pick (.tmp 62) (.const (.bool true)) (.tmp 65), none⟩,
                                  ⟨some 10, .mov (.tmp 66), none⟩]) (
                                .seq (
                                  .region [
                                    ⟨some 67, .mov (.tmp 11), none⟩,
                                    ⟨some 68, .mov (.tmp 67), none⟩,
                                    ⟨some 69, .mov (.tmp 14), some (68, false)⟩,
                                    ⟨some 70, .len false (.tmp 69), some (68, false)⟩,
                                    ⟨some 71, .bin .gtr .no (.tmp 70) (.const (.int .i64 999)), some (68, false)⟩,
                                    ⟨some 72, .pick (.tmp 68) (.const (.bool true)) (.tmp 71), none⟩,
                                    ⟨some 11, .mov (.tmp 72), none⟩]) (
                                  .seq (
                                    .seq (
                                      .region [
                                        ⟨some 73, .mov (.tmp 14), none⟩,
                                        ⟨some 74, .len false (.tmp 73), none⟩,
                                        ⟨some 75, .bin .gtr .no (.tmp 74) (.const (.int .i64 0)), none⟩,
                                        ⟨some 76, .mov (.tmp 75), none⟩,
                                        ⟨some 77, .mov (.tmp 14), some (76, true)⟩,
                                        ⟨some 78, .iaddr 1 (.tmp 77) (.const (.int .i64 0)), some (76, true)⟩,
                                        ⟨some 79, .load false 1 (.tmp 78), some (76, true)⟩,
                                        ⟨some 80, .bin .eql .no (.tmp 79) (.const (.b8 46)), some (76, true)⟩,
                                        ⟨some 81, .pick (.tmp 76) (.tmp 80) (.const (.bool false)), none⟩]) (
                                      .cond (.tmp 81) (
                                        .region [
                                          ⟨some 82, .mov (.tmp 14), none⟩,
                                          ⟨some 83, .slc 1 (.tmp 82) (some (.const (.int .i64 1))) none none, none⟩,
                                          ⟨some 14, .mov (.tmp 83), none⟩]) (
                                        .skip))) (
                                    .seq (
                                      .region [
                                        ⟨some 84, .mov (.tmp 11), none⟩,
                                        ⟨some 85, .mov (.tmp 84), none⟩,
                                        ⟨some 86, .mov (.tmp 14), some (85, false)⟩,
                                        ⟨some 87, .len false (.tmp 86), some (85, false)⟩,
                                        ⟨some 88, .bin .gtr .no (.tmp 87) (.const (.int .i64 998)), some (85, false)⟩,
                                        ⟨some 89, .pick (.tmp 85) (.const (.bool true)) (.tmp 88), none⟩,
                                        ⟨some 11, .mov (.tmp 89), none⟩]) (
                                      .seq (
                                        .region [
                                          ⟨some 90, .mov (.tmp 12), none⟩,
                                          ⟨some 91, .mov (.tmp 90), none⟩,
                                          ⟨some 92, .mov (.tmp 9), some (91, false)⟩,
                                          ⟨some 93, .len false (.tmp 92), some (91, false)⟩,
                                          ⟨some 94, .mov (.tmp 14), some (91, false)⟩,
                                          ⟨some 95, .len false (.tmp 94), some (91, false)⟩,
                                          ⟨some 96, .bin .add .no (.tmp 93) (.tmp 95), some (91, false)⟩,
                                          ⟨some 97, .bin .add .no (.tmp 96) (.const (.int .i64 2)), some (91, false)⟩,
                                          ⟨some 98, .mov (.tmp 0), some (91, false)⟩,
                                          ⟨some 99, .bin .gtr .no (.tmp 97) (.tmp 98), some (91, false)⟩,
                                          ⟨some 100, .pick (.tmp 91) (.const (.bool true)) (.tmp 99), none⟩,
                                          ⟨some 12, .mov (.tmp 100), none⟩]) (
                                        .seq (
                                          .region [
                                            ⟨some 101, .mov (.tmp 12), none⟩,
                                            ⟨some 102, .un .not (.tmp 101), none⟩]) (
                                          .cond (.tmp 102) (
                                            .seq (
                                              .region [
                                                ⟨some 103, .mov (.tmp 9), none⟩,
                                                ⟨some 104, .mov (.tmp 14), none⟩,
                                                ⟨some 105, .app true 1 (.tmp 103) (.tmp 104), none⟩,
                                                ⟨some 9, .mov (.tmp 105), none⟩]) (
                                              .region [
                                                ⟨some 106, .mov (.tmp 9), none⟩,
                                                ⟨some 107, .lit8 2 [(0, (.const (.b8 13))), (1, (.const (.b8 10)))], none⟩,
                                                ⟨some 108, .app true 1 (.tmp 106) (.tmp 107), none⟩,
                                                ⟨some 9, .mov (.tmp 108), none⟩])) (
                                            .skip))))))))))) (
                        .region [
                          ⟨some 31, .mov (.tmp 13), none⟩,
                          ⟨some 32, .bin .add .no (.tmp 31) (.const (.int .i64 1)), none⟩,
                          ⟨some 13, .mov (.tmp 32), none⟩])))))) (
              .seq (
                .seq (
                  .region [
                    ⟨some 109, .mov (.tmp 10), none⟩,
                    ⟨some 110, .mov (.tmp 11), none⟩,
                    ⟨some 111, .mov (.tmp 12), none⟩,
                    ⟨some 112, .call (.fn 25) [(.tmp 109), (.tmp 110), (.tmp 111)], none⟩,
                    ⟨some 113, .bin .neq .no (.tmp 112) (.const (.int .i64 0)), none⟩]) (
                  .cond (.tmp 113) (
                    .region [
                      ⟨some 9, .mov (.const (.nils)), none⟩]) (
                    .skip))) (
                .seq (
                  .region [
                    ⟨some 114, .mov (.tmp 1), none⟩,
                    ⟨some 115, .len false (.tmp 114), none⟩,
                    ⟨some 116, .mov (.tmp 9), none⟩,
                    ⟨some 4, .mov (.tmp 115), none⟩,
                    ⟨some 5, .mov (.const (.bool false)), none⟩,
                    ⟨some 6, .mov (.const (.int .i64 0)), none⟩,
                    ⟨some 7, .mov (.tmp 116), none⟩]) (
                  .ret))))))))) }

/-- (*posthorn/dots.Reader).Text -/
def F_P_dots_Reader_Text : ACFn := { nt := 15, results := [.tmp 2], body := (
  .seq (
    .region [
      ⟨some 2, .mov (.const (.nils)), none⟩]) (
    .seq (
      .seq (
        .region [
          ⟨some 3, .mov (.tmp 0), none⟩,
          ⟨some 4, .bin .eql .ptr (.tmp 3) (.const (.nilp)), none⟩,
          ⟨some 5, .mov (.tmp 4), none⟩,
          ⟨some 6, .mov (.tmp 0), some (5, false)⟩,
          ⟨some 7, .call (.fn 23) [(.tmp 6)], some (5, false)⟩,
          ⟨some 8, .bin .neq .no (.tmp 7) (.const (.int .i64 0)), some (5, false)⟩,
          ⟨some 9, .pick (.tmp 5) (.const (.bool true)) (.tmp 8), none⟩]) (
        .cond (.tmp 9) (
          .seq (
            .region [
              ⟨some 2, .mov (.const (.nils)), none⟩]) (
            .ret)) (
          .skip))) (
      .seq (
        .region [
          ⟨some 10, .mov (.tmp 0), none⟩,
          ⟨some 11, .nilck (.tmp 10), none⟩,
          ⟨some 12, .faddr 2 (.tmp 11), none⟩,
          ⟨some 13, .load false 1 (.tmp 12), none⟩,
          ⟨some 14, .call (.fn 26) [(.tmp 13)], none⟩,
          ⟨some 2, .mov (.tmp 14), none⟩]) (
        .ret)))) }

/-- posthorn/posthornlaw05.DotsNobody -/
def F_posthornlaw05_DotsNobody : ACFn := { nt := 73, results := [.tmp 2], body := (
  .seq (
    .region [
      ⟨some 2, .mov (.const (.bool false)), none⟩]) (
    .seq (
      .seq (
        .region [
          ⟨some 15, .mov (.tmp 0), none⟩,
          ⟨some 16, .len false (.tmp 15), none⟩,
          ⟨some 17, .bin .gtr .no (.tmp 16) (.const (.int .i64 2000)), none⟩]) (
        .cond (.tmp 17) (
          .seq (
            .region [
              ⟨some 18, .call (.fn 2) [], none⟩,
              ⟨some 2, .mov (.tmp 18), none⟩]) (
            .ret)) (
          .skip))) (
      .seq (
        .region [
          ⟨some 3, .mov (.const (.nilp)), none⟩]) (
        .seq (
          .region [
            ⟨some 4, .alloc [.int .i64 0, .nils, .nils, .bool false, .bool false, .bool false, .bool false], none⟩]) (
          .seq (
            .region [
              ⟨some 20, .mov (.tmp 3), none⟩,
              ⟨some 21, .mov (.tmp 0), none⟩,
              ⟨some 22, .call (.fn 10) [(.tmp 20), (.tmp 21)], none⟩,
              ⟨some 19, .mov (.tmp 22), none⟩,
              ⟨some 23, .ext 0 (.tmp 19), none⟩,
              ⟨some 24, .ext 1 (.tmp 19), none⟩,
              ⟨some 25, .ext 2 (.tmp 19), none⟩,
              ⟨some 5, .mov (.tmp 23), none⟩,
              ⟨some 6, .mov (.tmp 24), none⟩,
              ⟨some 7, .mov (.tmp 25), none⟩]) (
            .seq (
              .region [
                ⟨some 27, .mov (.tmp 0), none⟩,
                ⟨some 28, .call (.fn 10) [(.tmp 4), (.tmp 27)], none⟩,
                ⟨some 26, .mov (.tmp 28), none⟩,
                ⟨some 29, .ext 0 (.tmp 26), none⟩,
                ⟨some 30, .ext 1 (.tmp 26), none⟩,
                ⟨some 31, .ext 2 (.tmp 26), none⟩,
                ⟨some 8, .mov (.tmp 29), none⟩,
                ⟨some 9, .mov (.tmp 30), none⟩,
                ⟨some 10, .mov (.tmp 31), none⟩]) (
              .seq (
                .region [
                  ⟨some 33, .mov (.tmp 0), none⟩,
                  ⟨some 34, .call (.fn 11) [(.const (.int .i64 0)), (.tmp 33)], none⟩,
                  ⟨some 32, .mov (.tmp 34), none⟩,
                  ⟨some 35, .ext 0 (.tmp 32), none⟩,
                  ⟨some 36, .ext 1 (.tmp 32), none⟩,
                  ⟨some 37, .ext 2 (.tmp 32), none⟩,
                  ⟨some 38, .ext 3 (.tmp 32), none⟩,
                  ⟨some 11, .mov (.tmp 35), none⟩,
                  ⟨some 12, .mov (.tmp 36), none⟩,
                  ⟨some 13, .mov (.tmp 37), none⟩,
                  ⟨some 14, .mov (.tmp 38), none⟩]) (
                .seq (
                  .region [
                    ⟨some 39, .call (.fn 2) [], none⟩,
                    ⟨some 40, .mov (.tmp 39), none⟩,
                    ⟨some 41, .mov (.tmp 5), some (40, true)⟩,
                    ⟨some 42, .bin .eql .no (.tmp 41) (.const (.int .i64 0)), some (40, true)⟩,
                    ⟨some 43, .pick (.tmp 40) (.tmp 42) (.const (.bool false)), none⟩,
                    ⟨some 44, .mov (.tmp 43), none⟩,
                    ⟨some 45, .mov (.tmp 6), some (44, true)⟩,
                    ⟨some 46, .un .not (.tmp 45), some (44, true)⟩,
                    ⟨some 47, .pick (.tmp 44) (.tmp 46) (.const (.bool false)), none⟩,
                    ⟨some 48, .mov (.tmp 47), none⟩,
                    ⟨some 49, .mov (.tmp 7), some (48, true)⟩,
                    ⟨some 50, .bin .eql .no (.tmp 49) (.const (.int .i64 7)), some (48, true)⟩,
                    ⟨some 51, .pick (.tmp 48) (.tmp 50) (.const (.bool false)), none⟩,
                    ⟨some 52, .mov (.tmp 51), none⟩,
                    ⟨some 53, .mov (.tmp 3), some (52, true)⟩,
                    ⟨some 54, .call (.fn 12) [(.tmp 53)], some (52, true)⟩,
                    ⟨some 55, .len false (.tmp 54), some (52, true)⟩,
                    ⟨some 56, .bin .eql .no (.tmp 55) (.const (.int .i64 0)), some (52, true)⟩,
                    ⟨some 57, .pick (.tmp 52) (.tmp 56) (.const (.bool false)), none⟩,
                    ⟨some 58, .mov (.tmp 57), none⟩,
                    ⟨some 59, .mov (.tmp 8), some (58, true)⟩,
                    ⟨some 60, .mov (.tmp 11), some (58, true)⟩,
                    ⟨some 61, .bin .eql .no (.tmp 59) (.tmp 60), some (58, true)⟩,
                    ⟨some 62, .pick (.tmp 58) (.tmp 61) (.const (.bool false)), none⟩,
                    ⟨some 63, .mov (.tmp 62), none⟩,
                    ⟨some 64, .mov (.tmp 9), some (63, true)⟩,
                    ⟨some 65, .mov (.tmp 12), some (63, true)⟩,
                    ⟨some 66, .bin .eql .bool (.tmp 64) (.tmp 65), some (63, true)⟩,
                    ⟨some 67, .pick (.tmp 63) (.tmp 66) (.const (.bool false)), none⟩,
                    ⟨some 68, .mov (.tmp 67), none⟩,
                    ⟨some 69, .mov (.tmp 10), some (68, true)⟩,
                    ⟨some 70, .mov (.tmp 13), some (68, true)⟩,
                    ⟨some 71, .bin .eql .no (.tmp 69) (.tmp 70), some (68, true)⟩,
                    ⟨some 72, .pick (.tmp 68) (.tmp 71) (.const (.bool false)), none⟩,
                    ⟨some 2, .mov (.tmp 72), none⟩]) (
                  .ret))))))))) }

/-- posthorn/posthornref01.Copy -/
def F_posthornref01_Copy : ACFn := { nt := 7, results := [.tmp 2], body := (
  .seq (
    .region [
      ⟨some 2, .mov (.const (.nils)), none⟩]) (
    .seq (
      .region [
        ⟨some 3, .mov (.const (.nils)), none⟩]) (
      .seq (
        .region [
          ⟨some 4, .mov (.tmp 3), none⟩,
          ⟨some 5, .mov (.tmp 0), none⟩,
          ⟨some 6, .app true 1 (.tmp 4) (.tmp 5), none⟩,
          ⟨some 2, .mov (.tmp 6), none⟩]) (
        .ret)))) }

/-- posthorn/dots.New -/
def F_dots_New : ACFn := { nt := 7, results := [.tmp 2], body := (
  .seq (
    .region [
      ⟨some 2, .mov (.const (.nilp)), none⟩]) (
    .seq (
      .region [
        ⟨some 3, .mov (.tmp 0), none⟩,
        ⟨some 4, .mnmx true [(.tmp 3), (.const (.int .i64 0))], none⟩,
        ⟨some 5, .build [.int .i64 0, .nils, .nils, .bool false, .bool false, .bool false, .bool false] [(0, 1, (.tmp 4))], none⟩,
        ⟨some 6, .box (.tmp 5), none⟩,
        ⟨some 2, .mov (.tmp 6), none⟩]) (
      .ret))) }

/-- posthorn/posthornlaw05.DotsBack -/
def F_posthornlaw05_DotsBack : ACFn := { nt := 113, results := [.tmp 6], body := (
  .seq (
    .region [
      ⟨some 6, .mov (.const (.bool false)), none⟩]) (
    .seq (
      .seq (
        .region [
          ⟨some 17, .mov (.tmp 0), none⟩,
          ⟨some 18, .len false (.tmp 17), none⟩,
          ⟨some 19, .bin .gtr .no (.tmp 18) (.const (.int .i64 4000)), none⟩,
          ⟨some 20, .mov (.tmp 19), none⟩,
          ⟨some 21, .mov (.tmp 1), some (20, false)⟩,
          ⟨some 22, .len false (.tmp 21), some (20, false)⟩,
          ⟨some 23, .bin .gtr .no (.tmp 22) (.const (.int .i64 100)), some (20, false)⟩,
          ⟨some 24, .pick (.tmp 20) (.const (.bool true)) (.tmp 23), none⟩]) (
        .cond (.tmp 24) (
          .seq (
            .region [
              ⟨some 25, .call (.fn 2) [], none⟩,
              ⟨some 6, .mov (.tmp 25), none⟩]) (
            .ret)) (
          .skip))) (
      .seq (
        .region [
          ⟨some 27, .mov (.tmp 0), none⟩,
          ⟨some 28, .call (.fn 3) [(.tmp 27)], none⟩,
          ⟨some 26, .mov (.tmp 28), none⟩,
          ⟨some 29, .ext 0 (.tmp 26), none⟩,
          ⟨some 30, .ext 1 (.tmp 26), none⟩,
          ⟨some 7, .mov (.tmp 29), none⟩,
          ⟨some 8, .mov (.tmp 30), none⟩]) (
        .seq (
          .seq (
            .region [
              ⟨some 31, .mov (.tmp 8), none⟩,
              ⟨some 32, .bin .neq .no (.tmp 31) (.const (.int .i64 0)), none⟩]) (
            .cond (.tmp 32) (
              .seq (
                .region [
                  ⟨some 33, .call (.fn 2) [], none⟩,
                  ⟨some 34, .mov (.tmp 33), none⟩,
                  ⟨some 35, .mov (.tmp 7), some (34, true)⟩,
                  ⟨some 36, .len false (.tmp 35), some (34, true)⟩,
                  ⟨some 37, .bin .eql .no (.tmp 36) (.const (.int .i64 0)), some (34, true)⟩,
                  ⟨some 38, .pick (.tmp 34) (.tmp 37) (.const (.bool false)), none⟩,
                  ⟨some 6, .mov (.tmp 38), none⟩]) (
                .ret)) (
              .skip))) (
          .seq (
            .region [
              ⟨some 39, .mov (.tmp 7), none⟩,
              ⟨some 40, .call (.fn 14) [(.tmp 39)], none⟩,
              ⟨some 41, .mov (.tmp 1), none⟩,
              ⟨some 42, .app true 1 (.tmp 40) (.tmp 41), none⟩,
              ⟨some 9, .mov (.tmp 42), none⟩]) (
            .seq (
              .region [
                ⟨some 43, .mov (.tmp 0), none⟩,
                ⟨some 44, .len false (.tmp 43), none⟩,
                ⟨some 45, .call (.fn 15) [(.tmp 44)], none⟩,
                ⟨some 10, .mov (.tmp 45), none⟩]) (
              .seq (
                .region [
                  ⟨some 11, .mov (.const (.int .i64 0)), none⟩]) (
                .seq (
                  .seq (
                    .region [
                      ⟨some 12, .mov (.const (.int .i64 0)), none⟩]) (
                    .block 0 (
                      .loop (
                        .seq (
                          .seq (
                            .region [
                              ⟨some 46, .mov (.tmp 12), none⟩,
                              ⟨some 47, .bin .lss .no (.tmp 46) (.const (.int .i64 6000)), none⟩]) (
                            .cond (.tmp 47) (
                              .skip) (
                              .exit 0))) (
                          .seq (
                            .block 1 (
                              .seq (
                                .region [
                                  ⟨some 13, .mov (.const (.int .i64 7)), none⟩]) (
                                .seq (
                                  .seq (
                                    .region [
                                      ⟨some 50, .mov (.tmp 12), none⟩,
                                      ⟨some 51, .mov (.tmp 2), none⟩,
                                      ⟨some 52, .len false (.tmp 51), none⟩,
                                      ⟨some 53, .bin .lss .no (.tmp 50) (.tmp 52), none⟩]) (
                                    .cond (.tmp 53) (
                                      .region [
                                        ⟨some 54, .mov (.tmp 2), none⟩,
                                        ⟨some 55, .mov (.tmp 12), none⟩,
                                        ⟨some 56, .iaddr 1 (.tmp 54) (.tmp 55), none⟩,
                                        ⟨some 57, .load false 1 (.tmp 56), none⟩,
                                        ⟨some 58, .cInt .i64 (.tmp 57), none⟩,
                                        ⟨some 59, .bin .add .no (.const (.int .i64 1)) (.tmp 58), none⟩,
                                        ⟨some 13, .mov (.tmp 59), none⟩]) (
                                      .skip))) (
                                  .seq (
                                    .seq (
                                      .region [
                                        ⟨some 60, .mov (.tmp 13), none⟩,
                                        ⟨some 61, .mov (.tmp 9), none⟩,
                                        ⟨some 62, .len false (.tmp 61), none⟩,
                                        ⟨some 63, .bin .gtr .no (.tmp 60) (.tmp 62), none⟩]) (
                                      .cond (.tmp 63) (
                                        .region [
                                          ⟨some 64, .mov (.tmp 9), none⟩,
                                          ⟨some 65, .len false (.tmp 64), none⟩,
                                          ⟨some 13, .mov (.tmp 65), none⟩]) (
                                        .skip))) (
                                    .seq (
                                      .region [
                                        ⟨some 67, .mov (.tmp 10), none⟩,
                                        ⟨some 68, .mov (.tmp 9), none⟩,
                                        ⟨some 69, .mov (.tmp 13), none⟩,
                                        ⟨some 70, .slc 1 (.tmp 68) none (some (.tmp 69)) none, none⟩,
                                        ⟨some 71, .call (.fn 10) [(.tmp 67), (.tmp 70)], none⟩,
                                        ⟨some 66, .mov (.tmp 71), none⟩,
                                        ⟨some 72, .ext 0 (.tmp 66), none⟩,
                                        ⟨some 73, .ext 1 (.tmp 66), none⟩,
                                        ⟨some 74, .ext 2 (.tmp 66), none⟩,
                                        ⟨some 14, .mov (.tmp 72), none⟩,
                                        ⟨some 15, .mov (.tmp 73), none⟩,
                                        ⟨some 16, .mov (.tmp 74), none⟩]) (
                                      .seq (
                                        .region [
                                          ⟨some 75, .mov (.tmp 11), none⟩,
                                          ⟨some 76, .mov (.tmp 14), none⟩,
                                          ⟨some 77, .bin .add .no (.tmp 75) (.tmp 76), none⟩,
                                          ⟨some 11, .mov (.tmp 77), none⟩]) (
                                        .seq (
                                          .region [
                                            ⟨some 78, .mov (.tmp 9), none⟩,
                                            ⟨some 79, .mov (.tmp 13), none⟩,
                                            ⟨some 80, .slc 1 (.tmp 78) (some (.tmp 79)) none none, none⟩,
                                            ⟨some 9, .mov (.tmp 80), none⟩]) (
                                          .seq (
                                            .seq (
                                              .region [
                                                ⟨some 81, .mov (.tmp 15), none⟩]) (
                                              .cond (.tmp 81) (
                                                .seq (
                                                  .region [
                                                    ⟨some 82, .call (.fn 2) [], none⟩,
                                                    ⟨some 83, .mov (.tmp 82), none⟩,
                                                    ⟨some 84, .mov (.tmp 16), some (83, true)⟩,
                                                    ⟨some 85, .bin .eql .no (.tmp 84) (.const (.int .i64 0)), some (83, true)⟩,
                                                    ⟨some 86, .pick (.tmp 83) (.tmp 85) (.const (.bool false)), none⟩,
                                                    ⟨some 87, .mov (.tmp 86), none⟩,
                                                    ⟨some 88, .mov (.tmp 11), some (87, true)⟩,
                                                    ⟨some 89, .mov (.tmp 7), some (87, true)⟩,
                                                    ⟨some 90, .len false (.tmp 89), some (87, true)⟩,
                                                    ⟨some 91, .bin .eql .no (.tmp 88) (.tmp 90), some (87, true)⟩,
                                                    ⟨some 92, .pick (.tmp 87) (.tmp 91) (.const (.bool false)), none⟩,
                                                    ⟨some 93, .mov (.tmp 92), none⟩,
                                                    ⟨some 94, .mov (.tmp 10), some (93, true)⟩,
                                                    ⟨some 95, .call (.fn 12) [(.tmp 94)], some (93, true)⟩,
                                                    ⟨some 96, .cB2S false (.tmp 95), some (93, true)⟩,
                                                    ⟨some 97, .mov (.tmp 0), some (93, true)⟩,
                                                    ⟨some 98, .cB2S false (.tmp 97), some (93, true)⟩,
                                                    ⟨some 99, .bin .eql .no (.tmp 96) (.tmp 98), some (93, true)⟩,
                                                    ⟨some 100, .pick (.tmp 93) (.tmp 99) (.const (.bool false)), none⟩,
                                                    ⟨some 6, .mov (.tmp 100), none⟩]) (
                                                  .ret)) (
                                                .skip))) (
                                            .seq (
                                              .region [
                                                ⟨some 101, .mov (.tmp 14), none⟩,
                                                ⟨some 102, .mov (.tmp 13), none⟩,
                                                ⟨some 103, .bin .neq .no (.tmp 101) (.tmp 102), none⟩,
                                                ⟨some 104, .mov (.tmp 103), none⟩,
                                                ⟨some 105, .mov (.tmp 16), some (104, false)⟩,
                                                ⟨some 106, .bin .neq .no (.tmp 105) (.const (.int .i64 0)), some (104, false)⟩,
                                                ⟨some 107, .pick (.tmp 104) (.const (.bool true)) (.tmp 106), none⟩,
                                                ⟨some 108, .mov (.tmp 107), none⟩,
                                                ⟨some 109, .mov (.tmp 9), some (108, false)⟩,
                                                ⟨some 110, .len false (.tmp 109), some (108, false)⟩,
                                                ⟨some 111, .bin .eql .no (.tmp 110) (.const (.int .i64 0)), some (108, false)⟩,
                                                ⟨some 112, .pick (.tmp 108) (.const (.bool true)) (.tmp 111), none⟩]) (
                                              .cond (.tmp 112) (
                                                .seq (
                                                  .region [
                                                    ⟨some 6, .mov (.const (.bool false)), none⟩]) (
                                                  .ret)) (
                                                .skip))))))))))) (
                            .region [
                              ⟨some 48, .mov (.tmp 12), none⟩,
                              ⟨some 49, .bin .add .no (.tmp 48) (.const (.int .i64 1)), none⟩,
                              ⟨some 12, .mov (.tmp 49), none⟩])))))) (
                  .seq (
                    .region [
                      ⟨some 6, .mov (.const (.bool false)), none⟩]) (
                    .ret)))))))))) }

/-- posthorn/posthornlaw05.DotsCuts -/
def F_posthornlaw05_DotsCuts : ACFn := { nt := 93, results := [.tmp 6], body := (
  .seq (
    .region [
      ⟨some 6, .mov (.const (.bool false)), none⟩]) (
    .seq (
      .seq (
        .region [
          ⟨some 18, .mov (.tmp 1), none⟩,
          ⟨some 19, .len false (.tmp 18), none⟩,
          ⟨some 20, .bin .gtr .no (.tmp 19) (.const (.int .i64 4000)), none⟩,
          ⟨some 21, .mov (.tmp 20), none⟩,
          ⟨some 22, .mov (.tmp 2), some (21, false)⟩,
          ⟨some 23, .bin .lss .no (.tmp 22) (.const (.int .i64 0)), some (21, false)⟩,
          ⟨some 24, .pick (.tmp 21) (.const (.bool true)) (.tmp 23), none⟩,
          ⟨some 25, .mov (.tmp 24), none⟩,
          ⟨some 26, .mov (.tmp 2), some (25, false)⟩,
          ⟨some 27, .mov (.tmp 1), some (25, false)⟩,
          ⟨some 28, .len false (.tmp 27), some (25, false)⟩,
          ⟨some 29, .bin .gtr .no (.tmp 26) (.tmp 28), some (25, false)⟩,
          ⟨some 30, .pick (.tmp 25) (.const (.bool true)) (.tmp 29), none⟩]) (
        .cond (.tmp 30) (
          .seq (
            .region [
              ⟨some 31, .call (.fn 2) [], none⟩,
              ⟨some 6, .mov (.tmp 31), none⟩]) (
            .ret)) (
          .skip))) (
      .seq (
        .region [
          ⟨some 32, .mov (.tmp 0), none⟩,
          ⟨some 33, .call (.fn 15) [(.tmp 32)], none⟩,
          ⟨some 34, .mov (.tmp 0), none⟩,
          ⟨some 35, .call (.fn 15) [(.tmp 34)], none⟩,
          ⟨some 7, .mov (.tmp 33), none⟩,
          ⟨some 8, .mov (.tmp 35), none⟩]) (
        .seq (
          .region [
            ⟨some 37, .mov (.tmp 7), none⟩,
            ⟨some 38, .mov (.tmp 1), none⟩,
            ⟨some 39, .call (.fn 10) [(.tmp 37), (.tmp 38)], none⟩,
            ⟨some 36, .mov (.tmp 39), none⟩,
            ⟨some 40, .ext 0 (.tmp 36), none⟩,
            ⟨some 41, .ext 1 (.tmp 36), none⟩,
            ⟨some 42, .ext 2 (.tmp 36), none⟩,
            ⟨some 9, .mov (.tmp 40), none⟩,
            ⟨some 10, .mov (.tmp 41), none⟩,
            ⟨some 11, .mov (.tmp 42), none⟩]) (
          .seq (
            .region [
              ⟨some 44, .mov (.tmp 8), none⟩,
              ⟨some 45, .mov (.tmp 1), none⟩,
              ⟨some 46, .mov (.tmp 2), none⟩,
              ⟨some 47, .slc 1 (.tmp 45) none (some (.tmp 46)) none, none⟩,
              ⟨some 48, .call (.fn 10) [(.tmp 44), (.tmp 47)], none⟩,
              ⟨some 43, .mov (.tmp 48), none⟩,
              ⟨some 49, .ext 0 (.tmp 43), none⟩,
              ⟨some 50, .ext 1 (.tmp 43), none⟩,
              ⟨some 51, .ext 2 (.tmp 43), none⟩,
              ⟨some 12, .mov (.tmp 49), none⟩,
              ⟨some 13, .mov (.tmp 50), none⟩,
              ⟨some 14, .mov (.tmp 51), none⟩]) (
            .seq (
              .seq (
                .region [
                  ⟨some 52, .mov (.tmp 13), none⟩,
                  ⟨some 53, .un .not (.tmp 52), none⟩]) (
                .cond (.tmp 53) (
                  .seq (
                    .region [
                      ⟨some 55, .mov (.tmp 8), none⟩,
                      ⟨some 56, .mov (.tmp 1), none⟩,
                      ⟨some 57, .mov (.tmp 2), none⟩,
                      ⟨some 58, .slc 1 (.tmp 56) (some (.tmp 57)) none none, none⟩,
                      ⟨some 59, .call (.fn 10) [(.tmp 55), (.tmp 58)], none⟩,
                      ⟨some 54, .mov (.tmp 59), none⟩,
                      ⟨some 60, .ext 0 (.tmp 54), none⟩,
                      ⟨some 61, .ext 1 (.tmp 54), none⟩,
                      ⟨some 62, .ext 2 (.tmp 54), none⟩,
                      ⟨some 15, .mov (.tmp 60), none⟩,
                      ⟨some 16, .mov (.tmp 61), none⟩,
                      ⟨some 17, .mov (.tmp 62), none⟩]) (
                    .region [
                      ⟨some 63, .mov (.tmp 12), none⟩,
                      ⟨some 64, .mov (.tmp 15), none⟩,
                      ⟨some 65, .bin .add .no (.tmp 63) (.tmp 64), none⟩,
                      ⟨some 66, .mov (.tmp 16), none⟩,
                      ⟨some 67, .mov (.tmp 17), none⟩,
                      ⟨some 12, .mov (.tmp 65), none⟩,
                      ⟨some 13, .mov (.tmp 66), none⟩,
                      ⟨some 14, .mov (.tmp 67), none⟩])) (
                  .skip))) (
              .seq (
                .region [
                  ⟨some 68, .call (.fn 2) [], none⟩,
                  ⟨some 69, .mov (.tmp 68), none⟩,
                  ⟨some 70, .mov (.tmp 9), some (69, true)⟩,
                  ⟨some 71, .mov (.tmp 12), some (69, true)⟩,
                  ⟨some 72, .bin .eql .no (.tmp 70) (.tmp 71), some (69, true)⟩,
                  ⟨some 73, .pick (.tmp 69) (.tmp 72) (.const (.bool false)), none⟩,
                  ⟨some 74, .mov (.tmp 73), none⟩,
                  ⟨some 75, .mov (.tmp 10), some (74, true)⟩,
                  ⟨some 76, .mov (.tmp 13), some (74, true)⟩,
                  ⟨some 77, .bin .eql .bool (.tmp 75) (.tmp 76), some (74, true)⟩,
                  ⟨some 78, .pick (.tmp 74) (.tmp 77) (.const (.bool false)), none⟩,
                  ⟨some 79, .mov (.tmp 78), none⟩,
                  ⟨some 80, .mov (.tmp 11), some (79, true)⟩,
                  ⟨some 81, .mov (.tmp 14), some (79, true)⟩,
                  ⟨some 82, .bin .eql .no (.tmp 80) (.tmp 81), some (79, true)⟩,
                  ⟨some 83, .pick (.tmp 79) (.tmp 82) (.const (.bool false)), none⟩,
                  ⟨some 84, .mov (.tmp 83), none⟩,
                  ⟨some 85, .mov (.tmp 7), some (84, true)⟩,
                  ⟨some 86, .call (.fn 12) [(.tmp 85)], some (84, true)⟩,
                  ⟨some 87, .cB2S false (.tmp 86), some (84, true)⟩,
                  ⟨some 88, .mov (.tmp 8), some (84, true)⟩,
                  ⟨some 89, .call (.fn 12) [(.tmp 88)], some (84, true)⟩,
                  ⟨some 90, .cB2S false (.tmp 89), some (84, true)⟩,
                  ⟨some 91, .bin .eql .no (.tmp 87) (.tmp 90), some (84, true)⟩,
                  ⟨some 92, .pick (.tmp 84) (.tmp 91) (.const (.bool false)), none⟩,
                  ⟨some 6, .mov (.tmp 92), none⟩]) (
                .ret)))))))) }

/-- posthorn/dots.lines -/
def F_dots_lines : ACFn := { nt := 4, results := [.tmp 2], body := (
  .seq (
    .region [
      ⟨some 1, .box (.tmp 0), none⟩,
      ⟨some 2, .mov (.const (.nilf)), none⟩]) (
    .seq (
      .region [
        ⟨some 3, .mkfn 27 [(.tmp 1)], none⟩,
        ⟨some 2, .mov (.tmp 3), none⟩]) (
      .ret))) }

/-- bytes.CutSuffix -/
def F_bytes_CutSuffix : ACFn := { nt := 18, results := [.tmp 4, .tmp 5], body := (
  .seq (
    .region [
      ⟨some 4, .mov (.const (.nils)), none⟩,
      ⟨some 5, .mov (.const (.bool false)), none⟩]) (
    .seq (
      .seq (
        .region [
          ⟨some 6, .mov (.tmp 0), none⟩,
          ⟨some 7, .mov (.tmp 1), none⟩,
          ⟨some 8, .call (.fn 28) [(.tmp 6), (.tmp 7)], none⟩,
          ⟨some 9, .un .not (.tmp 8), none⟩]) (
        .cond (.tmp 9) (
          .seq (
            .region [
              ⟨some 10, .mov (.tmp 0), none⟩,
              ⟨some 4, .mov (.tmp 10), none⟩,
              ⟨some 5, .mov (.const (.bool false)), none⟩]) (
            .ret)) (
          .skip))) (
      .seq (
        .region [
          ⟨some 11, .mov (.tmp 0), none⟩,
          ⟨some 12, .mov (.tmp 0), none⟩,
          ⟨some 13, .len false (.tmp 12), none⟩,
          ⟨some 14, .mov (.tmp 1), none⟩,
          ⟨some 15, .len false (.tmp 14), none⟩,
          ⟨some 16, .bin .sub .no (.tmp 13) (.tmp 15), none⟩,
          ⟨some 17, .slc 1 (.tmp 11) none (some (.tmp 16)) none, none⟩,
          ⟨some 4, .mov (.tmp 17), none⟩,
          ⟨some 5, .mov (.const (.bool true)), none⟩]) (
        .ret)))) }

/-- posthorn/dots.bare -/
def F_dots_bare : ACFn := { nt := 5, results := [.tmp 2], body := (
  .seq (
    .region [
      ⟨some 2, .mov (.const (.int .i64 0)), none⟩]) (
    .seq (
      .region [
        ⟨some 3, .mov (.tmp 0), none⟩,
        ⟨some 4, .call (.fn 29) [(.tmp 3), (.fn 30)], none⟩,
        ⟨some 2, .mov (.tmp 4), none⟩]) (
      .ret))) }

/-- posthorn/posthornref05.bare -/
def F_posthornref05_bare : ACFn := { nt := 23, results := [.tmp 2], body := (
  .seq (
    .region [
      ⟨some 2, .mov (.const (.int .i64 0)), none⟩]) (
    .seq (
      .seq (
        .region [
          ⟨some 3, .mov (.const (.int .i64 0)), none⟩]) (
        .block 0 (
          .loop (
            .seq (
              .seq (
                .region [
                  ⟨some 4, .mov (.tmp 3), none⟩,
                  ⟨some 5, .mov (.tmp 0), none⟩,
                  ⟨some 6, .len false (.tmp 5), none⟩,
                  ⟨some 7, .bin .lss .no (.tmp 4) (.tmp 6), none⟩]) (
                .cond (.tmp 7) (
                  .skip) (
                  .exit 0))) (
              .seq (
                .block 1 (
                  .seq (
                    .region [
                      ⟨some 10, .mov (.tmp 0), none⟩,
                      ⟨some 11, .mov (.tmp 3), none⟩,
                      ⟨some 12, .iaddr 1 (.tmp 10) (.tmp 11), none⟩,
                      ⟨some 13, .load false 1 (.tmp 12), none⟩,
                      ⟨some 14, .bin .eql .no (.tmp 13) (.const (.b8 13)), none⟩,
                      ⟨some 15, .mov (.tmp 14), none⟩,
                      ⟨some 16, .mov (.tmp 0), some (15, false)⟩,
                      ⟨some 17, .mov (.tmp 3), some (15, false)⟩,
                      ⟨some 18, .iaddr 1 (.tmp 16) (.tmp 17), some (15, false)⟩,
                      ⟨some 19, .load false 1 (.tmp 18), some (15, false)⟩,
                      ⟨some 20, .bin .eql .no (.tmp 19) (.const (.b8 10)), some (15, false)⟩,
                      ⟨some 21, .pick (.tmp 15) (.const (.bool true)) (.tmp 20), none⟩]) (
                    .cond (.tmp 21) (
                      .seq (
                        .region [
                          ⟨some 22, .mov (.tmp 3), none⟩,
                          ⟨some 2, .mov (.tmp 22), none⟩]) (
                        .ret)) (
                      .skip)))) (
                .region [
                  ⟨some 8, .mov (.tmp 3), none⟩,
                  ⟨some 9, .bin .add .no (.tmp 8) (.const (.int .i64 1)), none⟩,
                  ⟨some 3, .mov (.tmp 9), none⟩])))))) (
      .seq (
        .region [
          ⟨some 2, .mov (.const (.int .i64 (-1))), none⟩]) (
        .ret)))) }

/-- posthorn/posthornref03.Pair -/
def F_posthornref03_Pair : ACFn := { nt := 25, results := [.tmp 4], body := (
  .seq (
    .region [
      ⟨some 4, .mov (.const (.bool false)), none⟩]) (
    .seq (
      .region [
        ⟨some 5, .mov (.tmp 1), none⟩,
        ⟨some 6, .bin .add .no (.tmp 5) (.const (.int .i64 1)), none⟩,
        ⟨some 7, .mov (.tmp 0), none⟩,
        ⟨some 8, .len false (.tmp 7), none⟩,
        ⟨some 9, .bin .lss .no (.tmp 6) (.tmp 8), none⟩,
        ⟨some 10, .mov (.tmp 9), none⟩,
        ⟨some 11, .mov (.tmp 0), some (10, true)⟩,
        ⟨some 12, .mov (.tmp 1), some (10, true)⟩,
        ⟨some 13, .iaddr 1 (.tmp 11) (.tmp 12), some (10, true)⟩,
        ⟨some 14, .load false 1 (.tmp 13), some (10, true)⟩,
        ⟨some 15, .bin .eql .no (.tmp 14) (.const (.b8 13)), some (10, true)⟩,
        ⟨some 16, .pick (.tmp 10) (.tmp 15) (.const (.bool false)), none⟩,
        ⟨some 17, .mov (.tmp 16), none⟩,
        ⟨some 18, .mov (.tmp 0), some (17, true)⟩,
        ⟨some 19, .mov (.tmp 1), some (17, true)⟩,
        ⟨some 20, .bin .add .no (.tmp 19) (.const (.int .i64 1)), some (17, true)⟩,
        ⟨some 21, .iaddr 1 (.tmp 18) (.tmp 20), some (17, true)⟩,
        ⟨some 22, .load false 1 (.tmp 21), some (17, true)⟩,
        ⟨some 23, .bin .eql .no (.tmp 22) (.const (.b8 10)), some (17, true)⟩,
        ⟨some 24, .pick (.tmp 17) (.tmp 23) (.const (.bool false)), none⟩,
        ⟨some 4, .mov (.tmp 24), none⟩]) (
      .ret))) }

/-- (*posthorn/dots.Reader).fault -/
def F_P_dots_Reader_fault : ACFn := { nt := 18, results := [.tmp 2], body := (
  .seq (
    .region [
      ⟨some 2, .mov (.const (.int .i64 0)), none⟩]) (
    .seq (
      .block 0 (
        .seq (
          .region [
            ⟨some 4, .mov (.tmp 0), none⟩,
            ⟨some 5, .nilck (.tmp 4), none⟩,
            ⟨some 6, .faddr 3 (.tmp 5), none⟩,
            ⟨some 7, .load false 1 (.tmp 6), none⟩,
            ⟨some 3, .mov (.tmp 7), none⟩]) (
          .cond (.tmp 3) (
            .seq (
              .region [
                ⟨some 2, .mov (.const (.int .i64 41)), none⟩]) (
              .ret)) (
            .seq (
              .region [
                ⟨some 9, .mov (.tmp 0), none⟩,
                ⟨some 10, .nilck (.tmp 9), none⟩,
                ⟨some 11, .faddr 4 (.tmp 10), none⟩,
                ⟨some 12, .load false 1 (.tmp 11), none⟩,
                ⟨some 8, .mov (.tmp 12), none⟩]) (
              .cond (.tmp 8) (
                .seq (
                  .region [
                    ⟨some 2, .mov (.const (.int .i64 40)), none⟩]) (
                  .ret)) (
                .seq (
                  .region [
                    ⟨some 14, .mov (.tmp 0), none⟩,
                    ⟨some 15, .nilck (.tmp 14), none⟩,
                    ⟨some 16, .faddr 5 (.tmp 15), none⟩,
                    ⟨some 17, .load false 1 (.tmp 16), none⟩,
                    ⟨some 13, .mov (.tmp 17), none⟩]) (
                  .cond (.tmp 13) (
                    .seq (
                      .region [
                        ⟨some 2, .mov (.const (.int .i64 2)), none⟩]) (
                      .ret)) (
                    .skip)))))))) (
      .seq (
        .region [
          ⟨some 2, .mov (.const (.int .i64 0)), none⟩]) (
        .ret)))) }

/-- (*posthorn/dots.Reader).take -/
def F_P_dots_Reader_take : ACFn := { nt := 85, results := [], body := (
  .seq (
    .region [
      ⟨some 4, .mov (.tmp 0), none⟩,
      ⟨some 5, .mov (.tmp 0), none⟩,
      ⟨some 6, .nilck (.tmp 5), none⟩,
      ⟨some 7, .faddr 3 (.tmp 6), none⟩,
      ⟨some 8, .load false 1 (.tmp 7), none⟩,
      ⟨some 9, .mov (.tmp 8), none⟩,
      ⟨some 10, .mov (.tmp 1), some (9, false)⟩,
      ⟨some 11, .call (.fn 20) [(.tmp 10)], some (9, false)⟩,
      ⟨some 12, .bin .geq .no (.tmp 11) (.const (.int .i64 0)), some (9, false)⟩,
      ⟨some 13, .pick (.tmp 9) (.const (.bool true)) (.tmp 12), none⟩,
      ⟨some 14, .nilck (.tmp 4), none⟩,
      ⟨some 15, .faddr 3 (.tmp 14), none⟩,
      ⟨none, .store 1 (.tmp 15) (.tmp 13), none⟩]) (
    .seq (
      .region [
        ⟨some 16, .mov (.tmp 0), none⟩,
        ⟨some 17, .mov (.tmp 0), none⟩,
        ⟨some 18, .nilck (.tmp 17), none⟩,
        ⟨some 19, .faddr 4 (.tmp 18), none⟩,
        ⟨some 20, .load false 1 (.tmp 19), none⟩,
        ⟨some 21, .mov (.tmp 20), none⟩,
        ⟨some 22, .mov (.tmp 1), some (21, false)⟩,
        ⟨some 23, .len false (.tmp 22), some (21, false)⟩,
        ⟨some 24, .bin .gtr .no (.tmp 23) (.const (.int .i64 999)), some (21, false)⟩,
        ⟨some 25, .pick (.tmp 21) (.const (.bool true)) (.tmp 24), none⟩,
        ⟨some 26, .nilck (.tmp 16), none⟩,
        ⟨some 27, .faddr 4 (.tmp 26), none⟩,
        ⟨none, .store 1 (.tmp 27) (.tmp 25), none⟩]) (
      .seq (
        .region [
          ⟨some 29, .mov (.tmp 1), none⟩,
          ⟨some 30, .lit8 1 [(0, (.const (.b8 46)))], none⟩,
          ⟨some 31, .cSame (.tmp 30), none⟩,
          ⟨some 32, .call (.fn 31) [(.tmp 29), (.tmp 31)], none⟩,
          ⟨some 28, .mov (.tmp 32), none⟩,
          ⟨some 33, .ext 0 (.tmp 28), none⟩,
          ⟨some 34, .ext 1 (.tmp 28), none⟩,
          ⟨some 1, .mov (.tmp 33), none⟩]) (
        .seq (
          .region [
            ⟨some 35, .mov (.tmp 0), none⟩,
            ⟨some 36, .mov (.tmp 0), none⟩,
            ⟨some 37, .nilck (.tmp 36), none⟩,
            ⟨some 38, .faddr 4 (.tmp 37), none⟩,
            ⟨some 39, .load false 1 (.tmp 38), none⟩,
            ⟨some 40, .mov (.tmp 39), none⟩,
            ⟨some 41, .mov (.tmp 1), some (40, false)⟩,
            ⟨some 42, .len false (.tmp 41), some (40, false)⟩,
            ⟨some 43, .bin .gtr .no (.tmp 42) (.const (.int .i64 998)), some (40, false)⟩,
            ⟨some 44, .pick (.tmp 40) (.const (.bool true)) (.tmp 43), none⟩,
            ⟨some 45, .nilck (.tmp 35), none⟩,
            ⟨some 46, .faddr 4 (.tmp 45), none⟩,
            ⟨none, .store 1 (.tmp 46) (.tmp 44), none⟩]) (
          .seq (
            .region [
              ⟨some 47, .mov (.tmp 0), none⟩,
              ⟨some 48, .mov (.tmp 0), none⟩,
              ⟨some 49, .nilck (.tmp 48), none⟩,
              ⟨some 50, .faddr 5 (.tmp 49), none⟩,
              ⟨some 51, .load false 1 (.tmp 50), none⟩,
              ⟨some 52, .mov (.tmp 51), none⟩,
              ⟨some 53, .mov (.tmp 1), some (52, false)⟩,
              ⟨some 54, .len false (.tmp 53), some (52, false)⟩,
              ⟨some 55, .bin .add .no (.tmp 54) (.const (.int .i64 2)), some (52, false)⟩,
              ⟨some 56, .mov (.tmp 0), some (52, false)⟩,
              ⟨some 57, .nilck (.tmp 56), some (52, false)⟩,
              ⟨some 58, .faddr 0 (.tmp 57), some (52, false)⟩,
              ⟨some 59, .load false 1 (.tmp 58), some (52, false)⟩,
              ⟨some 60, .mov (.tmp 0), some (52, false)⟩,
              ⟨some 61, .nilck (.tmp 60), some (52, false)⟩,
              ⟨some 62, .faddr 2 (.tmp 61), some (52, false)⟩,
              ⟨some 63, .load false 1 (.tmp 62), some (52, false)⟩,
              ⟨some 64, .len false (.tmp 63), some (52, false)⟩,
              ⟨some 65, .bin .sub .no (.tmp 59) (.tmp 64), some (52, false)⟩,
              ⟨some 66, .bin .gtr .no (.tmp 55) (.tmp 65), some (52, false)⟩,
              ⟨some 67, .pick (.tmp 52) (.const (.bool true)) (.tmp 66), none⟩,
              ⟨some 68, .nilck (.tmp 47), none⟩,
              ⟨some 69, .faddr 5 (.tmp 68), none⟩,
              ⟨none, .store 1 (.tmp 69) (.tmp 67), none⟩]) (
            .seq (
              .region [
                ⟨some 70, .mov (.tmp 0), none⟩,
                ⟨some 71, .nilck (.tmp 70), none⟩,
                ⟨some 72, .faddr 5 (.tmp 71), none⟩,
                ⟨some 73, .load false 1 (.tmp 72), none⟩,
                ⟨some 74, .un .not (.tmp 73), none⟩]) (
              .cond (.tmp 74) (
                .region [
                  ⟨some 75, .mov (.tmp 0), none⟩,
                  ⟨some 76, .mov (.tmp 0), none⟩,
                  ⟨some 77, .nilck (.tmp 76), none⟩,
                  ⟨some 78, .faddr 2 (.tmp 77), none⟩,
                  ⟨some 79, .load false 1 (.tmp 78), none⟩,
                  ⟨some 80, .mov (.tmp 1), none⟩,
                  ⟨some 81, .app true 1 (.tmp 79) (.tmp 80), none⟩,
                  ⟨some 82, .app true 1 (.tmp 81) (.const (.str [13, 10])), none⟩,
                  ⟨some 83, .nilck (.tmp 75), none⟩,
                  ⟨some 84, .faddr 2 (.tmp 83), none⟩,
                  ⟨none, .store 1 (.tmp 84) (.tmp 82), none⟩]) (
                .skip)))))))) }

/-- posthorn/posthornref05.fault -/
def F_posthornref05_fault : ACFn := { nt := 10, results := [.tmp 6], body := (
  .seq (
    .region [
      ⟨some 6, .mov (.const (.int .i64 0)), none⟩]) (
    .seq (
      .seq (
        .region [
          ⟨some 7, .mov (.tmp 0), none⟩]) (
        .cond (.tmp 7) (
          .seq (
            .region [
              ⟨some 6, .mov (.const (.int .i64 41)), none⟩]) (
            .ret)) (
          .skip))) (
      .seq (
        .seq (
          .region [
            ⟨some 8, .mov (.tmp 1), none⟩]) (
          .cond (.tmp 8) (
            .seq (
              .region [
                ⟨some 6, .mov (.const (.int .i64 40)), none⟩]) (
              .ret)) (
            .skip))) (
        .seq (
          .seq (
            .region [
              ⟨some 9, .mov (.tmp 2), none⟩]) (
            .cond (.tmp 9) (
              .seq (
                .region [
                  ⟨some 6, .mov (.const (.int .i64 2)), none⟩]) (
                .ret)) (
              .skip))) (
          .seq (
            .region [
              ⟨some 6, .mov (.const (.int .i64 0)), none⟩]) (
            .ret)))))) }

/-- slices.Clone[[]byte,byte] -/
def F_slices_Clone_s_byte_byte : ACFn := { nt := 8, results := [.tmp 2], body := (
  .seq (
    .region [
      ⟨some 2, .mov (.const (.nils)), none⟩]) (
    .seq (
      .seq (
        .region [
          ⟨some 3, .mov (.tmp 0), none⟩,
          ⟨some 4, .bin .eql .slice (.tmp 3) (.const (.nils)), none⟩]) (
        .cond (.tmp 4) (
          .seq (
            .region [
              ⟨some 2, .mov (.const (.nils)), none⟩]) (
            .ret)) (
          .skip))) (
      .seq (
        .region [
          ⟨some 5, .lit8 0 [], none⟩,
          ⟨some 6, .mov (.tmp 0), none⟩,
          ⟨some 7, .app true 1 (.tmp 5) (.tmp 6), none⟩,
          ⟨some 2, .mov (.tmp 7), none⟩]) (
        .ret)))) }

/-- posthorn/dots.lines$1 -/
def F_dots_lines_c1 : ACFn := { nt := 38, results := [], body := (
  .seq (
    .region [
      ⟨some 3, .mov (.const (.int .i64 0)), none⟩]) (
    .block 0 (
      .loop (
        .seq (
          .seq (
            .region [
              ⟨some 5, .mov (.tmp 3), none⟩,
              ⟨some 6, .load false 1 (.tmp 1), none⟩,
              ⟨some 7, .len false (.tmp 6), none⟩,
              ⟨some 8, .bin .lss .no (.tmp 5) (.tmp 7), none⟩]) (
            .cond (.tmp 8) (
              .skip) (
              .exit 0))) (
          .block 1 (
            .seq (
              .region [
                ⟨some 9, .load false 1 (.tmp 1), none⟩,
                ⟨some 10, .mov (.tmp 3), none⟩,
                ⟨some 11, .slc 1 (.tmp 9) (some (.tmp 10)) none none, none⟩,
                ⟨some 12, .lit8 2 [(0, (.const (.b8 13))), (1, (.const (.b8 10)))], none⟩,
                ⟨some 13, .cSame (.tmp 12), none⟩,
                ⟨some 14, .call (.fn 32) [(.tmp 11), (.tmp 13)], none⟩,
                ⟨some 4, .mov (.tmp 14), none⟩]) (
              .seq (
                .seq (
                  .region [
                    ⟨some 15, .mov (.tmp 4), none⟩,
                    ⟨some 16, .bin .lss .no (.tmp 15) (.const (.int .i64 0)), none⟩]) (
                  .cond (.tmp 16) (
                    .seq (
                      .region [
                        ⟨some 17, .mov (.tmp 0), none⟩,
                        ⟨some 18, .mov (.tmp 3), none⟩,
                        ⟨some 19, .load false 1 (.tmp 1), none⟩,
                        ⟨some 20, .mov (.tmp 3), none⟩,
                        ⟨some 21, .slc 1 (.tmp 19) (some (.tmp 20)) none none, none⟩,
                        ⟨some 22, .call (.tmp 17) [(.tmp 18), (.tmp 21)], none⟩]) (
                      .ret)) (
                    .skip))) (
                .seq (
                  .seq (
                    .region [
                      ⟨some 23, .mov (.tmp 0), none⟩,
                      ⟨some 24, .mov (.tmp 3), none⟩,
                      ⟨some 25, .load false 1 (.tmp 1), none⟩,
                      ⟨some 26, .mov (.tmp 3), none⟩,
                      ⟨some 27, .mov (.tmp 3), none⟩,
                      ⟨some 28, .mov (.tmp 4), none⟩,
                      ⟨some 29, .bin .add .no (.tmp 27) (.tmp 28), none⟩,
                      ⟨some 30, .bin .add .no (.tmp 29) (.const (.int .i64 2)), none⟩,
                      ⟨some 31, .slc 1 (.tmp 25) (some (.tmp 26)) (some (.tmp 30)) none, none⟩,
                      ⟨some 32, .call (.tmp 23) [(.tmp 24), (.tmp 31)], none⟩,
                      ⟨some 33, .un .not (.tmp 32), none⟩]) (
                    .cond (.tmp 33) (
                      .ret) (
                      .skip))) (
                  .region [
                    ⟨some 34, .mov (.tmp 3), none⟩,
                    ⟨some 35, .mov (.tmp 4), none⟩,
                    ⟨some 36, .bin .add .no (.tmp 35) (.const (.int .i64 2)), none⟩,
                    ⟨some 37, .bin .add .no (.tmp 34) (.tmp 36), none⟩,
                    ⟨some 3, .mov (.tmp 37), none⟩]))))))))) }

/-- bytes.HasSuffix -/
def F_bytes_HasSuffix : ACFn := { nt := 21, results := [.tmp 4], body := (
  .seq (
    .region [
      ⟨some 4, .mov (.const (.bool false)), none⟩]) (
    .seq (
      .region [
        ⟨some 5, .mov (.tmp 0), none⟩,
        ⟨some 6, .len false (.tmp 5), none⟩,
        ⟨some 7, .mov (.tmp 1), none⟩,
        ⟨some 8, .len false (.tmp 7), none⟩,
        ⟨some 9, .bin .geq .no (.tmp 6) (.tmp 8), none⟩,
        ⟨some 10, .mov (.tmp 9), none⟩,
        ⟨some 11, .mov (.tmp 0), some (10, true)⟩,
        ⟨some 12, .mov (.tmp 0), some (10, true)⟩,
        ⟨some 13, .len false (.tmp 12), some (10, true)⟩,
        ⟨some 14, .mov (.tmp 1), some (10, true)⟩,
        ⟨some 15, .len false (.tmp 14), some (10, true)⟩,
        ⟨some 16, .bin .sub .no (.tmp 13) (.tmp 15), some (10, true)⟩,
        ⟨some 17, .slc 1 (.tmp 11) (some (.tmp 16)) none none, some (10, true)⟩,
        ⟨some 18, .mov (.tmp 1), some (10, true)⟩,
        ⟨some 19, .call (.fn 34) [(.tmp 17), (.tmp 18)], some (10, true)⟩,
        ⟨some 20, .pick (.tmp 10) (.tmp 19) (.const (.bool false)), none⟩,
        ⟨some 4, .mov (.tmp 20), none⟩]) (
      .ret))) }

/-- slices.IndexFunc[[]byte,byte] -/
def F_slices_IndexFunc_s_byte_byte : ACFn := { nt := 19, results := [.tmp 4], body := (
  .seq (
    .region [
      ⟨some 4, .mov (.const (.int .i64 0)), none⟩]) (
    .seq (
      .seq (
        .region [
          ⟨some 6, .mov (.tmp 0), none⟩,
          ⟨some 7, .len false (.tmp 6), none⟩,
          ⟨some 8, .mov (.const (.int .i64 0)), none⟩]) (
        .block 0 (
          .loop (
            .seq (
              .region [
                ⟨some 9, .bin .lss .no (.tmp 8) (.tmp 7), none⟩]) (
              .seq (
                .cond (.tmp 9) (
                  .skip) (
                  .exit 0)) (
                .seq (
                  .block 1 (
                    .seq (
                      .region [
                        ⟨some 10, .mov (.tmp 8), none⟩,
                        ⟨some 5, .mov (.tmp 10), none⟩]) (
                      .seq (
                        .region [
                          ⟨some 11, .mov (.tmp 1), none⟩,
                          ⟨some 12, .mov (.tmp 0), none⟩,
                          ⟨some 13, .mov (.tmp 5), none⟩,
                          ⟨some 14, .iaddr 1 (.tmp 12) (.tmp 13), none⟩,
                          ⟨some 15, .load false 1 (.tmp 14), none⟩,
                          ⟨some 16, .call (.tmp 11) [(.tmp 15)], none⟩]) (
                        .cond (.tmp 16) (
                          .seq (
                            .region [
                              ⟨some 17, .mov (.tmp 5), none⟩,
                              ⟨some 4, .mov (.tmp 17), none⟩]) (
                            .ret)) (
                          .skip))))) (
                  .region [
                    ⟨some 18, .bin .add .no (.tmp 8) (.const (.int .i64 1)), none⟩,
                    ⟨some 8, .mov (.tmp 18), none⟩]))))))) (
      .seq (
        .region [
          ⟨some 4, .mov (.const (.int .i64 (-1))), none⟩]) (
        .ret)))) }

/-- posthorn/dots.bare$1 -/
def F_dots_bare_c1 : ACFn := { nt := 9, results := [.tmp 2], body := (
  .seq (
    .region [
      ⟨some 2, .mov (.const (.bool false)), none⟩]) (
    .seq (
      .region [
        ⟨some 3, .mov (.tmp 0), none⟩,
        ⟨some 4, .bin .eql .no (.tmp 3) (.const (.b8 13)), none⟩,
        ⟨some 5, .mov (.tmp 4), none⟩,
        ⟨some 6, .mov (.tmp 0), some (5, false)⟩,
        ⟨some 7, .bin .eql .no (.tmp 6) (.const (.b8 10)), some (5, false)⟩,
        ⟨some 8, .pick (.tmp 5) (.const (.bool true)) (.tmp 7), none⟩,
        ⟨some 2, .mov (.tmp 8), none⟩]) (
      .ret))) }

/-- bytes.CutPrefix -/
def F_bytes_CutPrefix : ACFn := { nt := 15, results := [.tmp 4, .tmp 5], body := (
  .seq (
    .region [
      ⟨some 4, .mov (.const (.nils)), none⟩,
      ⟨some 5, .mov (.const (.bool false)), none⟩]) (
    .seq (
      .seq (
        .region [
          ⟨some 6, .mov (.tmp 0), none⟩,
          ⟨some 7, .mov (.tmp 1), none⟩,
          ⟨some 8, .call (.fn 35) [(.tmp 6), (.tmp 7)], none⟩,
          ⟨some 9, .un .not (.tmp 8), none⟩]) (
        .cond (.tmp 9) (
          .seq (
            .region [
              ⟨some 10, .mov (.tmp 0), none⟩,
              ⟨some 4, .mov (.tmp 10), none⟩,
              ⟨some 5, .mov (.const (.bool false)), none⟩]) (
            .ret)) (
          .skip))) (
      .seq (
        .region [
          ⟨some 11, .mov (.tmp 0), none⟩,
          ⟨some 12, .mov (.tmp 1), none⟩,
          ⟨some 13, .len false (.tmp 12), none⟩,
          ⟨some 14, .slc 1 (.tmp 11) (some (.tmp 13)) none none, none⟩,
          ⟨some 4, .mov (.tmp 14), none⟩,
          ⟨some 5, .mov (.const (.bool true)), none⟩]) (
        .ret)))) }

/-- bytes.Equal -/
def F_bytes_Equal : ACFn := { nt := 10, results := [.tmp 4], body := (
  .seq (
    .region [
      ⟨some 4, .mov (.const (.bool false)), none⟩]) (
    .seq (
      .region [
        ⟨some 5, .mov (.tmp 0), none⟩,
        ⟨some 6, .cB2S false (.tmp 5), none⟩,
        ⟨some 7, .mov (.tmp 1), none⟩,
        ⟨some 8, .cB2S false (.tmp 7), none⟩,
        ⟨some 9, .bin .eql .no (.tmp 6) (.tmp 8), none⟩,
        ⟨some 4, .mov (.tmp 9), none⟩]) (
      .ret))) }

/-- bytes.HasPrefix -/
def F_bytes_HasPrefix : ACFn := { nt := 18, results := [.tmp 4], body := (
  .seq (
    .region [
      ⟨some 4, .mov (.const (.bool false)), none⟩]) (
    .seq (
      .region [
        ⟨some 5, .mov (.tmp 0), none⟩,
        ⟨some 6, .len false (.tmp 5), none⟩,
        ⟨some 7, .mov (.tmp 1), none⟩,
        ⟨some 8, .len false (.tmp 7), none⟩,
        ⟨some 9, .bin .geq .no (.tmp 6) (.tmp 8), none⟩,
        ⟨some 10, .mov (.tmp 9), none⟩,
        ⟨some 11, .mov (.tmp 0), some (10, true)⟩,
        ⟨some 12, .mov (.tmp 1), some (10, true)⟩,
        ⟨some 13, .len false (.tmp 12), some (10, true)⟩,
        ⟨some 14, .slc 1 (.tmp 11) none (some (.tmp 13)) none, some (10, true)⟩,
        ⟨some 15, .mov (.tmp 1), some (10, true)⟩,
        ⟨some 16, .call (.fn 34) [(.tmp 14), (.tmp 15)], some (10, true)⟩,
        ⟨some 17, .pick (.tmp 10) (.tmp 16) (.const (.bool false)), none⟩,
        ⟨some 4, .mov (.tmp 17), none⟩]) (
      .ret))) }

end Go.Ab

/-
  The abstract program: functions by their numbers.
-/
namespace Go.Ab
def prog : AP := fun n => (if n < 19 then (if n < 11 then (if n < 5 then (if n < 3 then (if n = 2 then some (.code F_posthornlaw05_alive) else none)
  else (if n < 4 then (if n = 3 then some (.code F_dots_Stuff) else none)
  else (if n = 4 then some (.code F_posthornref05_Stuff) else none)))
  else (if n < 8 then (if n < 6 then (if n = 5 then some (.code F_dots_Right) else none)
  else (if n = 6 then some (.code F_posthornref05_Right) else none))
  else (if n < 10 then (if n = 8 then some (.code F_posthornref05_Lines) else none)
  else (if n = 10 then some (.code F_P_dots_Reader_Put) else none))))
  else (if n < 15 then (if n < 13 then (if n < 12 then (if n = 11 then some (.code F_posthornref05_Frame) else none)
  else (if n = 12 then some (.code F_P_dots_Reader_Text) else none))
  else (if n < 14 then (if n = 13 then some (.code F_posthornlaw05_DotsNobody) else none)
  else (if n = 14 then some (.code F_posthornref01_Copy) else none)))
  else (if n < 17 then (if n < 16 then (if n = 15 then some (.code F_dots_New) else none)
  else (if n = 16 then some (.code F_posthornlaw05_DotsBack) else none))
  else (if n < 18 then (if n = 17 then some (.code F_posthornlaw05_DotsCuts) else none)
  else (if n = 18 then some (.code F_dots_lines) else none)))))
  else (if n < 27 then (if n < 23 then (if n < 21 then (if n < 20 then (if n = 19 then some (.code F_bytes_CutSuffix) else none)
  else (if n = 20 then some (.code F_dots_bare) else none))
  else (if n < 22 then (if n = 21 then some (.code F_posthornref05_bare) else none)
  else (if n = 22 then some (.code F_posthornref03_Pair) else none)))
  else (if n < 25 then (if n < 24 then (if n = 23 then some (.code F_P_dots_Reader_fault) else none)
  else (if n = 24 then some (.code F_P_dots_Reader_take) else none))
  else (if n < 26 then (if n = 25 then some (.code F_posthornref05_fault) else none)
  else (if n = 26 then some (.code F_slices_Clone_s_byte_byte) else none))))
  else (if n < 31 then (if n < 29 then (if n < 28 then (if n = 27 then some (.code F_dots_lines_c1) else none)
  else (if n = 28 then some (.code F_bytes_HasSuffix) else none))
  else (if n < 30 then (if n = 29 then some (.code F_slices_IndexFunc_s_byte_byte) else none)
  else (if n = 30 then some (.code F_dots_bare_c1) else none)))
  else (if n < 34 then (if n < 32 then (if n = 31 then some (.code F_bytes_CutPrefix) else none)
  else (if n = 32 then some (.prim pBytesIndex) else none))
  else (if n < 35 then (if n = 34 then some (.code F_bytes_Equal) else none)
  else (if n = 35 then some (.code F_bytes_HasPrefix) else none))))))
theorem prog_2 : prog 2 = some (.code F_posthornlaw05_alive) := rfl
theorem prog_3 : prog 3 = some (.code F_dots_Stuff) := rfl
theorem prog_4 : prog 4 = some (.code F_posthornref05_Stuff) := rfl
theorem prog_5 : prog 5 = some (.code F_dots_Right) := rfl
theorem prog_6 : prog 6 = some (.code F_posthornref05_Right) := rfl
theorem prog_8 : prog 8 = some (.code F_posthornref05_Lines) := rfl
theorem prog_10 : prog 10 = some (.code F_P_dots_Reader_Put) := rfl
theorem prog_11 : prog 11 = some (.code F_posthornref05_Frame) := rfl
theorem prog_12 : prog 12 = some (.code F_P_dots_Reader_Text) := rfl
theorem prog_13 : prog 13 = some (.code F_posthornlaw05_DotsNobody) := rfl
theorem prog_14 : prog 14 = some (.code F_posthornref01_Copy) := rfl
theorem prog_15 : prog 15 = some (.code F_dots_New) := rfl
theorem prog_16 : prog 16 = some (.code F_posthornlaw05_DotsBack) := rfl
theorem prog_17 : prog 17 = some (.code F_posthornlaw05_DotsCuts) := rfl
theorem prog_18 : prog 18 = some (.code F_dots_lines) := rfl
theorem prog_19 : prog 19 = some (.code F_bytes_CutSuffix) := rfl
theorem prog_20 : prog 20 = some (.code F_dots_bare) := rfl
theorem prog_21 : prog 21 = some (.code F_posthornref05_bare) := rfl
theorem prog_22 : prog 22 = some (.code F_posthornref03_Pair) := rfl
theorem prog_23 : prog 23 = some (.code F_P_dots_Reader_fault) := rfl
theorem prog_24 : prog 24 = some (.code F_P_dots_Reader_take) := rfl
theorem prog_25 : prog 25 = some (.code F_posthornref05_fault) := rfl
theorem prog_26 : prog 26 = some (.code F_slices_Clone_s_byte_byte) := rfl
theorem prog_27 : prog 27 = some (.code F_dots_lines_c1) := rfl
theorem prog_28 : prog 28 = some (.code F_bytes_HasSuffix) := rfl
theorem prog_29 : prog 29 = some (.code F_slices_IndexFunc_s_byte_byte) := rfl
theorem prog_30 : prog 30 = some (.code F_dots_bare_c1) := rfl
theorem prog_31 : prog 31 = some (.code F_bytes_CutPrefix) := rfl
theorem prog_32 : prog 32 = some (.prim pBytesIndex) := rfl
theorem prog_34 : prog 34 = some (.code F_bytes_Equal) := rfl
theorem prog_35 : prog 35 = some (.code F_bytes_HasPrefix) := rfl
end Go.Ab

/-
  What the smallest functions come to.
-/
namespace Go.Ab
set_option linter.unusedVariables false
set_option linter.unusedSimpArgs false
variable {st : St} {e : Env}

theorem Equal_spec {x y : PV} {a b : List UInt8} (hx : x.by = some a) (hy : y.by = some b) : call prog (.fn 34 []) [x, y] st = some (.bool (decide (a = b)), st) := by
  refine call_of_W prog_34 ?_
  unfold F_bytes_Equal; dsimp only
  simp only [b2s_by hx, b2s_by hy, W_seq, W_region, W_cond, W_block, W_skip, W_label, W_exit, W_goto, W_ret, WO_cons, WO_consG, WO_nil, wantedA_eq, wantB, evOp, ev_tmp, ev_const, ev_fn, WN_some, WN_none, updO_some, updO_none, upd_eq,
 ↓reduceIte, Nat.reduceEqDiff, List.nil_append, List.cons_append, List.append_nil, List.map_cons, List.map_nil, env0_zero, env0_succ, env0_nil, Option.map_some, Option.map_none, seqQ_normal, seqQ_ret, seqQ_exit, seqQ_goto, blockQ_normal, blockQ_ret, blockQ_exit, blockQ_goto, condW_bool, loopQ_ret, loopQ_exit, loopQ_goto, endQ_ret, endQ_normal,
 lss_i, leq_i, gtr_i, geq_i, eql_i, neq_i, eql_8, neq_8, lss_8, leq_8, gtr_8, geq_8, eql_s, neq_s, eql_b, neq_b, not_b, by_bys, by_nils, load_cp1, beq_true, beq_false, Bool.not_eq_true', decide_eq_true_eq, decide_eq_false_iff_not, decide_true, decide_false,
 Int.toNat_natCast, Int.ofNat_lt, Int.ofNat_le, Int.natCast_inj, Bool.false_eq_true, Bool.true_eq_false, extPV, List.getElem?_cons_zero, List.getElem?_cons_succ, nilckPV, Int.reduceToNat, Int.reduceLE, true_and, and_true, reduceCtorEq, or_false, false_or, or_true, Option.some.injEq, exists_eq_left', Bool.not_true, Bool.not_false, ne_eq, Int.reduceEq, not_true_eq_false, not_false_eq_true, Int.reduceLT, UInt8.reduceLT, UInt8.reduceLE, UInt8.reduceToNat]
  exact ⟨_, rfl, leave_pure rfl rfl⟩

theorem HasSuffix_spec {x y : PV} {a b : List UInt8} (hx : x.by = some a) (hy : y.by = some b) (ha : a.length < 4611686018427387904) : call prog (.fn 28 []) [x, y] st = some (.bool (decide (b <:+ a)), st) := by
  refine call_of_W prog_28 ?_
  by_cases h : b.length ≤ a.length
  · have hs : (x.dropB (a.length - b.length)).by = some (a.drop (a.length - b.length)) := dropB_by hx
    have h' : (b.length : Int) ≤ a.length := by omega
    unfold F_bytes_HasSuffix; dsimp only
    simp (maxSteps := 1000000) (disch := omega) only [len_by hx, len_by hy, h', sub_n, slc_lo hx, Equal_spec hs hy, W_seq, W_region, W_cond, W_block, W_skip, W_label, W_exit, W_goto, W_ret, WO_cons, WO_consG, WO_nil, wantedA_eq, wantB, evOp, ev_tmp, ev_const, ev_fn, WN_some, WN_none, updO_some, updO_none, upd_eq,
 ↓reduceIte, Nat.reduceEqDiff, List.nil_append, List.cons_append, List.append_nil, List.map_cons, List.map_nil, env0_zero, env0_succ, env0_nil, Option.map_some, Option.map_none, seqQ_normal, seqQ_ret, seqQ_exit, seqQ_goto, blockQ_normal, blockQ_ret, blockQ_exit, blockQ_goto, condW_bool, loopQ_ret, loopQ_exit, loopQ_goto, endQ_ret, endQ_normal,
 lss_i, leq_i, gtr_i, geq_i, eql_i, neq_i, eql_8, neq_8, lss_8, leq_8, gtr_8, geq_8, eql_s, neq_s, eql_b, neq_b, not_b, by_bys, by_nils, load_cp1, beq_true, beq_false, Bool.not_eq_true', decide_eq_true_eq, decide_eq_false_iff_not, decide_true, decide_false,
 Int.toNat_natCast, Int.ofNat_lt, Int.ofNat_le, Int.natCast_inj, Bool.false_eq_true, Bool.true_eq_false, extPV, List.getElem?_cons_zero, List.getElem?_cons_succ, nilckPV, Int.reduceToNat, Int.reduceLE, true_and, and_true, reduceCtorEq, or_false, false_or, or_true, Option.some.injEq, exists_eq_left', Bool.not_true, Bool.not_false, ne_eq, Int.reduceEq, not_true_eq_false, not_false_eq_true, Int.reduceLT, UInt8.reduceLT, UInt8.reduceLE, UInt8.reduceToNat]
    refine ⟨_, rfl, ?_⟩
    rw [show decide (a.drop (a.length - b.length) = b) = decide (b <:+ a) by
      rw [decide_eq_decide]
      exact ⟨fun hd => hd ▸ List.drop_suffix _ _, fun hd => by
        obtain ⟨t, rfl⟩ := hd
        simp⟩]
    exact leave_pure rfl rfl
  · have h' : ¬ (b.length : Int) ≤ a.length := by omega
    unfold F_bytes_HasSuffix; dsimp only
    simp (maxSteps := 1000000) (disch := omega) only [len_by hx, len_by hy, h', W_seq, W_region, W_cond, W_block, W_skip, W_label, W_exit, W_goto, W_ret, WO_cons, WO_consG, WO_nil, wantedA_eq, wantB, evOp, ev_tmp, ev_const, ev_fn, WN_some, WN_none, updO_some, updO_none, upd_eq,
 ↓reduceIte, Nat.reduceEqDiff, List.nil_append, List.cons_append, List.append_nil, List.map_cons, List.map_nil, env0_zero, env0_succ, env0_nil, Option.map_some, Option.map_none, seqQ_normal, seqQ_ret, seqQ_exit, seqQ_goto, blockQ_normal, blockQ_ret, blockQ_exit, blockQ_goto, condW_bool, loopQ_ret, loopQ_exit, loopQ_goto, endQ_ret, endQ_normal,
 lss_i, leq_i, gtr_i, geq_i, eql_i, neq_i, eql_8, neq_8, lss_8, leq_8, gtr_8, geq_8, eql_s, neq_s, eql_b, neq_b, not_b, by_bys, by_nils, load_cp1, beq_true, beq_false, Bool.not_eq_true', decide_eq_true_eq, decide_eq_false_iff_not, decide_true, decide_false,
 Int.toNat_natCast, Int.ofNat_lt, Int.ofNat_le, Int.natCast_inj, Bool.false_eq_true, Bool.true_eq_false, extPV, List.getElem?_cons_zero, List.getElem?_cons_succ, nilckPV, Int.reduceToNat, Int.reduceLE, true_and, and_true, reduceCtorEq, or_false, false_or, or_true, Option.some.injEq, exists_eq_left', Bool.not_true, Bool.not_false, ne_eq, Int.reduceEq, not_true_eq_false, not_false_eq_true, Int.reduceLT, UInt8.reduceLT, UInt8.reduceLE, UInt8.reduceToNat]
    refine ⟨_, rfl, ?_⟩
    rw [show decide (b <:+ a) = false by
      rw [decide_eq_false_iff_not]
      intro hd
      exact h hd.length_le]
    exact leave_pure rfl rfl
end Go.Ab

/-
  What small functions come to: beginnings and ends, the place of a bare 13 or 10, copies.
-/
namespace Go.Ab
set_option linter.unusedVariables false
set_option linter.unusedSimpArgs false
variable {st : St} {e : Env}

theorem HasPrefix_spec {x y : PV} {a b : List UInt8} (hx : x.by = some a) (hy : y.by = some b) : call prog (.fn 35 []) [x, y] st = some (.bool (decide (b <+: a)), st) := by
  refine call_of_W prog_35 ?_
  unfold F_bytes_HasPrefix; dsimp only
  by_cases h : b.length ≤ a.length
  · have hs : (x.takeB b.length).by = some (a.take b.length) := takeB_by hx
    simp (maxSteps := 1000000) (disch := omega) only [len_by hx, len_by hy, h, slc_hi hx, Equal_spec hs hy, W_seq, W_region, W_cond, W_block, W_skip, W_label, W_exit, W_goto, W_ret, WO_cons, WO_consG, WO_nil, wantedA_eq, wantB, evOp, ev_tmp, ev_const, ev_fn, WN_some, WN_none, updO_some, updO_none, upd_eq,
 ↓reduceIte, Nat.reduceEqDiff, List.nil_append, List.cons_append, List.append_nil, List.map_cons, List.map_nil, env0_zero, env0_succ, env0_nil, Option.map_some, Option.map_none, seqQ_normal, seqQ_ret, seqQ_exit, seqQ_goto, blockQ_normal, blockQ_ret, blockQ_exit, blockQ_goto, condW_bool, loopQ_ret, loopQ_exit, loopQ_goto, endQ_ret, endQ_normal,
 lss_i, leq_i, gtr_i, geq_i, eql_i, neq_i, eql_8, neq_8, lss_8, leq_8, gtr_8, geq_8, eql_s, neq_s, eql_b, neq_b, not_b, by_bys, by_nils, load_cp1, beq_true, beq_false, Bool.not_eq_true', decide_eq_true_eq, decide_eq_false_iff_not, decide_true, decide_false,
 Int.toNat_natCast, Int.ofNat_lt, Int.ofNat_le, Int.natCast_inj, Bool.false_eq_true, Bool.true_eq_false, extPV, List.getElem?_cons_zero, List.getElem?_cons_succ, nilckPV, Int.reduceToNat, Int.reduceLE, true_and, and_true, reduceCtorEq, or_false, false_or, or_true, Option.some.injEq, exists_eq_left', Bool.not_true, Bool.not_false, ne_eq, Int.reduceEq, not_true_eq_false, not_false_eq_true, Int.reduceLT, UInt8.reduceLT, UInt8.reduceLE, UInt8.reduceToNat]
    refine ⟨_, rfl, ?_⟩
    rw [show decide (a.take b.length = b) = decide (b <+: a) by
      rw [decide_eq_decide]
      exact ⟨fun hd => hd ▸ List.take_prefix _ _, fun hd => by
        obtain ⟨t, rfl⟩ := hd
        simp⟩]
    exact leave_pure rfl rfl
  · simp (maxSteps := 1000000) (disch := omega) only [len_by hx, len_by hy, h, W_seq, W_region, W_cond, W_block, W_skip, W_label, W_exit, W_goto, W_ret, WO_cons, WO_consG, WO_nil, wantedA_eq, wantB, evOp, ev_tmp, ev_const, ev_fn, WN_some, WN_none, updO_some, updO_none, upd_eq,
 ↓reduceIte, Nat.reduceEqDiff, List.nil_append, List.cons_append, List.append_nil, List.map_cons, List.map_nil, env0_zero, env0_succ, env0_nil, Option.map_some, Option.map_none, seqQ_normal, seqQ_ret, seqQ_exit, seqQ_goto, blockQ_normal, blockQ_ret, blockQ_exit, blockQ_goto, condW_bool, loopQ_ret, loopQ_exit, loopQ_goto, endQ_ret, endQ_normal,
 lss_i, leq_i, gtr_i, geq_i, eql_i, neq_i, eql_8, neq_8, lss_8, leq_8, gtr_8, geq_8, eql_s, neq_s, eql_b, neq_b, not_b, by_bys, by_nils, load_cp1, beq_true, beq_false, Bool.not_eq_true', decide_eq_true_eq, decide_eq_false_iff_not, decide_true, decide_false,
 Int.toNat_natCast, Int.ofNat_lt, Int.ofNat_le, Int.natCast_inj, Bool.false_eq_true, Bool.true_eq_false, extPV, List.getElem?_cons_zero, List.getElem?_cons_succ, nilckPV, Int.reduceToNat, Int.reduceLE, true_and, and_true, reduceCtorEq, or_false, false_or, or_true, Option.some.injEq, exists_eq_left', Bool.not_true, Bool.not_false, ne_eq, Int.reduceEq, not_true_eq_false, not_false_eq_true, Int.reduceLT, UInt8.reduceLT, UInt8.reduceLE, UInt8.reduceToNat]
    refine ⟨_, rfl, ?_⟩
    rw [show decide (b <+: a) = false by
      rw [decide_eq_false_iff_not]
      intro hd
      exact h hd.length_le]
    exact leave_pure rfl rfl

theorem CutSuffix_spec {x y : PV} {a b : List UInt8} (hx : x.by = some a) (hy : y.by = some b) (hl : a.length < 4611686018427387904) (ht : x.tokLt st.toks.length = true) :
    call prog (.fn 19 []) [x, y] st = some (if b <:+ a then .tup [x.takeB (a.length - b.length), .bool true] else .tup [x, .bool false], st) := by
  refine call_of_W prog_19 ?_
  unfold F_bytes_CutSuffix; dsimp only
  by_cases h : b <:+ a
  · have hle := h.length_le
    simp (maxSteps := 1000000) (disch := omega) only [HasSuffix_spec hx hy hl, len_by hx, len_by hy, h, sub_n, slc_hi hx, W_seq, W_region, W_cond, W_block, W_skip, W_label, W_exit, W_goto, W_ret, WO_cons, WO_consG, WO_nil, wantedA_eq, wantB, evOp, ev_tmp, ev_const, ev_fn, WN_some, WN_none, updO_some, updO_none, upd_eq,
 ↓reduceIte, Nat.reduceEqDiff, List.nil_append, List.cons_append, List.append_nil, List.map_cons, List.map_nil, env0_zero, env0_succ, env0_nil, Option.map_some, Option.map_none, seqQ_normal, seqQ_ret, seqQ_exit, seqQ_goto, blockQ_normal, blockQ_ret, blockQ_exit, blockQ_goto, condW_bool, loopQ_ret, loopQ_exit, loopQ_goto, endQ_ret, endQ_normal,
 lss_i, leq_i, gtr_i, geq_i, eql_i, neq_i, eql_8, neq_8, lss_8, leq_8, gtr_8, geq_8, eql_s, neq_s, eql_b, neq_b, not_b, by_bys, by_nils, load_cp1, beq_true, beq_false, Bool.not_eq_true', decide_eq_true_eq, decide_eq_false_iff_not, decide_true, decide_false,
 Int.toNat_natCast, Int.ofNat_lt, Int.ofNat_le, Int.natCast_inj, Bool.false_eq_true, Bool.true_eq_false, extPV, List.getElem?_cons_zero, List.getElem?_cons_succ, nilckPV, Int.reduceToNat, Int.reduceLE, true_and, and_true, reduceCtorEq, or_false, false_or, or_true, Option.some.injEq, exists_eq_left', Bool.not_true, Bool.not_false, ne_eq, Int.reduceEq, not_true_eq_false, not_false_eq_true, Int.reduceLT, UInt8.reduceLT, UInt8.reduceLE, UInt8.reduceToNat]
    have hz := takeB_by (i := a.length - b.length) hx
    exact end2 rfl rfl (Kp_by hz (takeB_tok ht)) Kp_bool
  · simp (maxSteps := 1000000) (disch := omega) only [HasSuffix_spec hx hy hl, len_by hx, len_by hy, h, W_seq, W_region, W_cond, W_block, W_skip, W_label, W_exit, W_goto, W_ret, WO_cons, WO_consG, WO_nil, wantedA_eq, wantB, evOp, ev_tmp, ev_const, ev_fn, WN_some, WN_none, updO_some, updO_none, upd_eq,
 ↓reduceIte, Nat.reduceEqDiff, List.nil_append, List.cons_append, List.append_nil, List.map_cons, List.map_nil, env0_zero, env0_succ, env0_nil, Option.map_some, Option.map_none, seqQ_normal, seqQ_ret, seqQ_exit, seqQ_goto, blockQ_normal, blockQ_ret, blockQ_exit, blockQ_goto, condW_bool, loopQ_ret, loopQ_exit, loopQ_goto, endQ_ret, endQ_normal,
 lss_i, leq_i, gtr_i, geq_i, eql_i, neq_i, eql_8, neq_8, lss_8, leq_8, gtr_8, geq_8, eql_s, neq_s, eql_b, neq_b, not_b, by_bys, by_nils, load_cp1, beq_true, beq_false, Bool.not_eq_true', decide_eq_true_eq, decide_eq_false_iff_not, decide_true, decide_false,
 Int.toNat_natCast, Int.ofNat_lt, Int.ofNat_le, Int.natCast_inj, Bool.false_eq_true, Bool.true_eq_false, extPV, List.getElem?_cons_zero, List.getElem?_cons_succ, nilckPV, Int.reduceToNat, Int.reduceLE, true_and, and_true, reduceCtorEq, or_false, false_or, or_true, Option.some.injEq, exists_eq_left', Bool.not_true, Bool.not_false, ne_eq, Int.reduceEq, not_true_eq_false, not_false_eq_true, Int.reduceLT, UInt8.reduceLT, UInt8.reduceLE, UInt8.reduceToNat]
    exact end2 rfl rfl (Kp_by hx ht) Kp_bool

theorem CutPrefix_spec {x y : PV} {a b : List UInt8} (hx : x.by = some a) (hy : y.by = some b) (ht : x.tokLt st.toks.length = true) :
    call prog (.fn 31 []) [x, y] st = some (if b <+: a then .tup [x.dropB b.length, .bool true] else .tup [x, .bool false], st) := by
  refine call_of_W prog_31 ?_
  unfold F_bytes_CutPrefix; dsimp only
  by_cases h : b <+: a
  · have hle := h.length_le
    simp (maxSteps := 1000000) (disch := omega) only [HasPrefix_spec hx hy, len_by hx, len_by hy, h, slc_lo hx, W_seq, W_region, W_cond, W_block, W_skip, W_label, W_exit, W_goto, W_ret, WO_cons, WO_consG, WO_nil, wantedA_eq, wantB, evOp, ev_tmp, ev_const, ev_fn, WN_some, WN_none, updO_some, updO_none, upd_eq,
 ↓reduceIte, Nat.reduceEqDiff, List.nil_append, List.cons_append, List.append_nil, List.map_cons, List.map_nil, env0_zero, env0_succ, env0_nil, Option.map_some, Option.map_none, seqQ_normal, seqQ_ret, seqQ_exit, seqQ_goto, blockQ_normal, blockQ_ret, blockQ_exit, blockQ_goto, condW_bool, loopQ_ret, loopQ_exit, loopQ_goto, endQ_ret, endQ_normal,
 lss_i, leq_i, gtr_i, geq_i, eql_i, neq_i, eql_8, neq_8, lss_8, leq_8, gtr_8, geq_8, eql_s, neq_s, eql_b, neq_b, not_b, by_bys, by_nils, load_cp1, beq_true, beq_false, Bool.not_eq_true', decide_eq_true_eq, decide_eq_false_iff_not, decide_true, decide_false,
 Int.toNat_natCast, Int.ofNat_lt, Int.ofNat_le, Int.natCast_inj, Bool.false_eq_true, Bool.true_eq_false, extPV, List.getElem?_cons_zero, List.getElem?_cons_succ, nilckPV, Int.reduceToNat, Int.reduceLE, true_and, and_true, reduceCtorEq, or_false, false_or, or_true, Option.some.injEq, exists_eq_left', Bool.not_true, Bool.not_false, ne_eq, Int.reduceEq, not_true_eq_false, not_false_eq_true, Int.reduceLT, UInt8.reduceLT, UInt8.reduceLE, UInt8.reduceToNat]
    have hz := dropB_by (i := b.length) hx
    exact end2 rfl rfl (Kp_by hz (dropB_tok ht)) Kp_bool
  · simp (maxSteps := 1000000) (disch := omega) only [HasPrefix_spec hx hy, len_by hx, len_by hy, h, W_seq, W_region, W_cond, W_block, W_skip, W_label, W_exit, W_goto, W_ret, WO_cons, WO_consG, WO_nil, wantedA_eq, wantB, evOp, ev_tmp, ev_const, ev_fn, WN_some, WN_none, updO_some, updO_none, upd_eq,
 ↓reduceIte, Nat.reduceEqDiff, List.nil_append, List.cons_append, List.append_nil, List.map_cons, List.map_nil, env0_zero, env0_succ, env0_nil, Option.map_some, Option.map_none, seqQ_normal, seqQ_ret, seqQ_exit, seqQ_goto, blockQ_normal, blockQ_ret, blockQ_exit, blockQ_goto, condW_bool, loopQ_ret, loopQ_exit, loopQ_goto, endQ_ret, endQ_normal,
 lss_i, leq_i, gtr_i, geq_i, eql_i, neq_i, eql_8, neq_8, lss_8, leq_8, gtr_8, geq_8, eql_s, neq_s, eql_b, neq_b, not_b, by_bys, by_nils, load_cp1, beq_true, beq_false, Bool.not_eq_true', decide_eq_true_eq, decide_eq_false_iff_not, decide_true, decide_false,
 Int.toNat_natCast, Int.ofNat_lt, Int.ofNat_le, Int.natCast_inj, Bool.false_eq_true, Bool.true_eq_false, extPV, List.getElem?_cons_zero, List.getElem?_cons_succ, nilckPV, Int.reduceToNat, Int.reduceLE, true_and, and_true, reduceCtorEq, or_false, false_or, or_true, Option.some.injEq, exists_eq_left', Bool.not_true, Bool.not_false, ne_eq, Int.reduceEq, not_true_eq_false, not_false_eq_true, Int.reduceLT, UInt8.reduceLT, UInt8.reduceLE, UInt8.reduceToNat]
    exact end2 rfl rfl (Kp_by hx ht) Kp_bool

def pairAt (l : List UInt8) (i : Nat) : Bool := decide (i + 1 < l.length ∧ l.getD i 0 = 13 ∧ l.getD (i + 1) 0 = 10)

theorem Pair_spec {x : PV} {l : List UInt8} {i : Nat} (hx : x.by = some l) (hl : i < 4611686018427387904) : call prog (.fn 22 []) [x, .int .i64 (i : Int)] st = some (.bool (pairAt l i), st) := by
  refine call_of_W prog_22 ?_
  unfold F_posthornref03_Pair; dsimp only
  by_cases h1 : i + 1 < l.length
  · by_cases h2 : l.getD i 0 = 13
    · simp (maxSteps := 1000000) (disch := omega) only [len_by hx, h1, h2, add_n, iaddr_by hx, W_seq, W_region, W_cond, W_block, W_skip, W_label, W_exit, W_goto, W_ret, WO_cons, WO_consG, WO_nil, wantedA_eq, wantB, evOp, ev_tmp, ev_const, ev_fn, WN_some, WN_none, updO_some, updO_none, upd_eq,
 ↓reduceIte, Nat.reduceEqDiff, List.nil_append, List.cons_append, List.append_nil, List.map_cons, List.map_nil, env0_zero, env0_succ, env0_nil, Option.map_some, Option.map_none, seqQ_normal, seqQ_ret, seqQ_exit, seqQ_goto, blockQ_normal, blockQ_ret, blockQ_exit, blockQ_goto, condW_bool, loopQ_ret, loopQ_exit, loopQ_goto, endQ_ret, endQ_normal,
 lss_i, leq_i, gtr_i, geq_i, eql_i, neq_i, eql_8, neq_8, lss_8, leq_8, gtr_8, geq_8, eql_s, neq_s, eql_b, neq_b, not_b, by_bys, by_nils, load_cp1, beq_true, beq_false, Bool.not_eq_true', decide_eq_true_eq, decide_eq_false_iff_not, decide_true, decide_false,
 Int.toNat_natCast, Int.ofNat_lt, Int.ofNat_le, Int.natCast_inj, Bool.false_eq_true, Bool.true_eq_false, extPV, List.getElem?_cons_zero, List.getElem?_cons_succ, nilckPV, Int.reduceToNat, Int.reduceLE, true_and, and_true, reduceCtorEq, or_false, false_or, or_true, Option.some.injEq, exists_eq_left', Bool.not_true, Bool.not_false, ne_eq, Int.reduceEq, not_true_eq_false, not_false_eq_true, Int.reduceLT, UInt8.reduceLT, UInt8.reduceLE, UInt8.reduceToNat]
      refine ⟨_, rfl, ?_⟩
      rw [show pairAt l i = decide (l.getD (i + 1) 0 = 10) by simp only [pairAt, h1, h2, true_and]]
      exact leave_pure rfl rfl
    · simp (maxSteps := 1000000) (disch := omega) only [len_by hx, h1, h2, add_n, iaddr_by hx, W_seq, W_region, W_cond, W_block, W_skip, W_label, W_exit, W_goto, W_ret, WO_cons, WO_consG, WO_nil, wantedA_eq, wantB, evOp, ev_tmp, ev_const, ev_fn, WN_some, WN_none, updO_some, updO_none, upd_eq,
 ↓reduceIte, Nat.reduceEqDiff, List.nil_append, List.cons_append, List.append_nil, List.map_cons, List.map_nil, env0_zero, env0_succ, env0_nil, Option.map_some, Option.map_none, seqQ_normal, seqQ_ret, seqQ_exit, seqQ_goto, blockQ_normal, blockQ_ret, blockQ_exit, blockQ_goto, condW_bool, loopQ_ret, loopQ_exit, loopQ_goto, endQ_ret, endQ_normal,
 lss_i, leq_i, gtr_i, geq_i, eql_i, neq_i, eql_8, neq_8, lss_8, leq_8, gtr_8, geq_8, eql_s, neq_s, eql_b, neq_b, not_b, by_bys, by_nils, load_cp1, beq_true, beq_false, Bool.not_eq_true', decide_eq_true_eq, decide_eq_false_iff_not, decide_true, decide_false,
 Int.toNat_natCast, Int.ofNat_lt, Int.ofNat_le, Int.natCast_inj, Bool.false_eq_true, Bool.true_eq_false, extPV, List.getElem?_cons_zero, List.getElem?_cons_succ, nilckPV, Int.reduceToNat, Int.reduceLE, true_and, and_true, reduceCtorEq, or_false, false_or, or_true, Option.some.injEq, exists_eq_left', Bool.not_true, Bool.not_false, ne_eq, Int.reduceEq, not_true_eq_false, not_false_eq_true, Int.reduceLT, UInt8.reduceLT, UInt8.reduceLE, UInt8.reduceToNat]
      refine ⟨_, rfl, ?_⟩
      rw [show pairAt l i = false by simp only [pairAt, h2, false_and, and_false, decide_false]]
      exact leave_pure rfl rfl
  · simp (maxSteps := 1000000) (disch := omega) only [len_by hx, h1, add_n, iaddr_by hx, W_seq, W_region, W_cond, W_block, W_skip, W_label, W_exit, W_goto, W_ret, WO_cons, WO_consG, WO_nil, wantedA_eq, wantB, evOp, ev_tmp, ev_const, ev_fn, WN_some, WN_none, updO_some, updO_none, upd_eq,
 ↓reduceIte, Nat.reduceEqDiff, List.nil_append, List.cons_append, List.append_nil, List.map_cons, List.map_nil, env0_zero, env0_succ, env0_nil, Option.map_some, Option.map_none, seqQ_normal, seqQ_ret, seqQ_exit, seqQ_goto, blockQ_normal, blockQ_ret, blockQ_exit, blockQ_goto, condW_bool, loopQ_ret, loopQ_exit, loopQ_goto, endQ_ret, endQ_normal,
 lss_i, leq_i, gtr_i, geq_i, eql_i, neq_i, eql_8, neq_8, lss_8, leq_8, gtr_8, geq_8, eql_s, neq_s, eql_b, neq_b, not_b, by_bys, by_nils, load_cp1, beq_true, beq_false, Bool.not_eq_true', decide_eq_true_eq, decide_eq_false_iff_not, decide_true, decide_false,
 Int.toNat_natCast, Int.ofNat_lt, Int.ofNat_le, Int.natCast_inj, Bool.false_eq_true, Bool.true_eq_false, extPV, List.getElem?_cons_zero, List.getElem?_cons_succ, nilckPV, Int.reduceToNat, Int.reduceLE, true_and, and_true, reduceCtorEq, or_false, false_or, or_true, Option.some.injEq, exists_eq_left', Bool.not_true, Bool.not_false, ne_eq, Int.reduceEq, not_true_eq_false, not_false_eq_true, Int.reduceLT, UInt8.reduceLT, UInt8.reduceLE, UInt8.reduceToNat]
    refine ⟨_, rfl, ?_⟩
    rw [show pairAt l i = false by simp only [pairAt, h1, false_and, decide_false]]
    exact leave_pure rfl rfl

def crlf (c : UInt8) : Bool := decide (c = 13 ∨ c = 10)
theorem dbare1_spec {c : UInt8} : call prog (.fn 30 []) [.b8 c] st = some (.bool (crlf c), st) := by
  refine call_of_W prog_30 ?_
  unfold F_dots_bare_c1; dsimp only
  by_cases h : c = 13
  · simp (maxSteps := 1000000) (disch := omega) only [h, W_seq, W_region, W_cond, W_block, W_skip, W_label, W_exit, W_goto, W_ret, WO_cons, WO_consG, WO_nil, wantedA_eq, wantB, evOp, ev_tmp, ev_const, ev_fn, WN_some, WN_none, updO_some, updO_none, upd_eq,
 ↓reduceIte, Nat.reduceEqDiff, List.nil_append, List.cons_append, List.append_nil, List.map_cons, List.map_nil, env0_zero, env0_succ, env0_nil, Option.map_some, Option.map_none, seqQ_normal, seqQ_ret, seqQ_exit, seqQ_goto, blockQ_normal, blockQ_ret, blockQ_exit, blockQ_goto, condW_bool, loopQ_ret, loopQ_exit, loopQ_goto, endQ_ret, endQ_normal,
 lss_i, leq_i, gtr_i, geq_i, eql_i, neq_i, eql_8, neq_8, lss_8, leq_8, gtr_8, geq_8, eql_s, neq_s, eql_b, neq_b, not_b, by_bys, by_nils, load_cp1, beq_true, beq_false, Bool.not_eq_true', decide_eq_true_eq, decide_eq_false_iff_not, decide_true, decide_false,
 Int.toNat_natCast, Int.ofNat_lt, Int.ofNat_le, Int.natCast_inj, Bool.false_eq_true, Bool.true_eq_false, extPV, List.getElem?_cons_zero, List.getElem?_cons_succ, nilckPV, Int.reduceToNat, Int.reduceLE, true_and, and_true, reduceCtorEq, or_false, false_or, or_true, Option.some.injEq, exists_eq_left', Bool.not_true, Bool.not_false, ne_eq, Int.reduceEq, not_true_eq_false, not_false_eq_true, Int.reduceLT, UInt8.reduceLT, UInt8.reduceLE, UInt8.reduceToNat]
    exact ⟨_, rfl, leave_pure rfl rfl⟩
  · simp (maxSteps := 1000000) (disch := omega) only [h, W_seq, W_region, W_cond, W_block, W_skip, W_label, W_exit, W_goto, W_ret, WO_cons, WO_consG, WO_nil, wantedA_eq, wantB, evOp, ev_tmp, ev_const, ev_fn, WN_some, WN_none, updO_some, updO_none, upd_eq,
 ↓reduceIte, Nat.reduceEqDiff, List.nil_append, List.cons_append, List.append_nil, List.map_cons, List.map_nil, env0_zero, env0_succ, env0_nil, Option.map_some, Option.map_none, seqQ_normal, seqQ_ret, seqQ_exit, seqQ_goto, blockQ_normal, blockQ_ret, blockQ_exit, blockQ_goto, condW_bool, loopQ_ret, loopQ_exit, loopQ_goto, endQ_ret, endQ_normal,
 lss_i, leq_i, gtr_i, geq_i, eql_i, neq_i, eql_8, neq_8, lss_8, leq_8, gtr_8, geq_8, eql_s, neq_s, eql_b, neq_b, not_b, by_bys, by_nils, load_cp1, beq_true, beq_false, Bool.not_eq_true', decide_eq_true_eq, decide_eq_false_iff_not, decide_true, decide_false,
 Int.toNat_natCast, Int.ofNat_lt, Int.ofNat_le, Int.natCast_inj, Bool.false_eq_true, Bool.true_eq_false, extPV, List.getElem?_cons_zero, List.getElem?_cons_succ, nilckPV, Int.reduceToNat, Int.reduceLE, true_and, and_true, reduceCtorEq, or_false, false_or, or_true, Option.some.injEq, exists_eq_left', Bool.not_true, Bool.not_false, ne_eq, Int.reduceEq, not_true_eq_false, not_false_eq_true, Int.reduceLT, UInt8.reduceLT, UInt8.reduceLE, UInt8.reduceToNat]
    refine ⟨_, rfl, ?_⟩
    rw [show crlf c = decide (c = 10) by simp only [crlf, h, false_or]]
    exact leave_pure rfl rfl
end Go.Ab

/-
  Loops over bytes: the place of a bare 13 or 10; copies.
-/
namespace Go.Ab
set_option linter.unusedVariables false
set_option linter.unusedSimpArgs false
variable {st : St} {e : Env}

theorem find_at {p : UInt8 → Bool} {l : List UInt8} {i : Nat} (hi : i < l.length) (hp : p (l.getD i 0) = true) (hn : ∀ j, j < i → p (l.getD j 0) = false) : l.findIdx? p = some i := by
  rw [List.findIdx?_eq_some_iff_getElem]
  refine ⟨hi, by simpa [List.getD, hi] using hp, fun j hj => ?_⟩
  have := hn j hj
  simpa [List.getD, show j < l.length by omega] using this
theorem find_none {p : UInt8 → Bool} {l : List UInt8} (hn : ∀ j, j < l.length → p (l.getD j 0) = false) : l.findIdx? p = none := by
  rw [List.findIdx?_eq_none_iff]
  intro x hx
  obtain ⟨j, hj, rfl⟩ := List.getElem_of_mem hx
  have := hn j hj
  simpa [List.getD, hj] using this

/-- The place of a bare 13 or 10; -1. -/
def bareAt (l : List UInt8) : Int := match l.findIdx? crlf with
  | some i => (i : Int)
  | none => -1

theorem IndexFunc_spec {x : PV} {l : List UInt8} (hx : x.by = some l) (hl : l.length < 4611686018427387904) : call prog (.fn 29 []) [x, .fn 30 []] st = some (.int .i64 (bareAt l), st) := by
  refine call_of_W prog_29 ?_
  unfold F_slices_IndexFunc_s_byte_byte; dsimp only
  simp (maxSteps := 1000000) (disch := omega) only [len_by hx, W_seq, W_region, W_cond, W_block, W_skip, W_label, W_exit, W_goto, W_ret, WO_cons, WO_consG, WO_nil, wantedA_eq, wantB, evOp, ev_tmp, ev_const, ev_fn, WN_some, WN_none, updO_some, updO_none, upd_eq,
 ↓reduceIte, Nat.reduceEqDiff, List.nil_append, List.cons_append, List.append_nil, List.map_cons, List.map_nil, env0_zero, env0_succ, env0_nil, Option.map_some, Option.map_none, seqQ_normal, seqQ_ret, seqQ_exit, seqQ_goto, blockQ_normal, blockQ_ret, blockQ_exit, blockQ_goto, condW_bool, loopQ_ret, loopQ_exit, loopQ_goto, endQ_ret, endQ_normal,
 lss_i, leq_i, gtr_i, geq_i, eql_i, neq_i, eql_8, neq_8, lss_8, leq_8, gtr_8, geq_8, eql_s, neq_s, eql_b, neq_b, not_b, by_bys, by_nils, load_cp1, beq_true, beq_false, Bool.not_eq_true', decide_eq_true_eq, decide_eq_false_iff_not, decide_true, decide_false,
 Int.toNat_natCast, Int.ofNat_lt, Int.ofNat_le, Int.natCast_inj, Bool.false_eq_true, Bool.true_eq_false, extPV, List.getElem?_cons_zero, List.getElem?_cons_succ, nilckPV, Int.reduceToNat, Int.reduceLE, true_and, and_true, reduceCtorEq, or_false, false_or, or_true, Option.some.injEq, exists_eq_left', Bool.not_true, Bool.not_false, ne_eq, Int.reduceEq, not_true_eq_false, not_false_eq_true, Int.reduceLT, UInt8.reduceLT, UInt8.reduceLE, UInt8.reduceToNat]
  obtain ⟨I, hI⟩ : ∃ I : Nat → Env → St → Prop, I = fun n e s => ∃ i : Nat, n = l.length - i ∧ i ≤ l.length ∧ (∀ j, j < i → crlf (l.getD j 0) = false) ∧ s = { boxes := st.boxes, toks := st.toks, loops := st.loops, low := st.boxes.length } ∧ e 0 = x ∧ e 1 = .fn 30 [] ∧ e 7 = .int .i64 (l.length : Int) ∧ e 8 = .int .i64 (i : Int) := ⟨_, rfl⟩
  refine W_loop I ?_ (n := l.length) (by rw [hI]; exact ⟨0, rfl, by omega, fun j hj => by omega, rfl, rfl, rfl, rfl, rfl⟩)
  intro n e s h
  rw [hI] at h
  obtain ⟨i, rfl, hi, hn, rfl, h0, h1, h7, h8⟩ := h
  by_cases hlt : i < l.length
  · by_cases hc : crlf (l.getD i 0) = true
    · simp (maxSteps := 1000000) (disch := omega) only [h0, h1, h7, h8, hlt, hc, iaddr_by hx, dbare1_spec, W_seq, W_region, W_cond, W_block, W_skip, W_label, W_exit, W_goto, W_ret, WO_cons, WO_consG, WO_nil, wantedA_eq, wantB, evOp, ev_tmp, ev_const, ev_fn, WN_some, WN_none, updO_some, updO_none, upd_eq,
 ↓reduceIte, Nat.reduceEqDiff, List.nil_append, List.cons_append, List.append_nil, List.map_cons, List.map_nil, env0_zero, env0_succ, env0_nil, Option.map_some, Option.map_none, seqQ_normal, seqQ_ret, seqQ_exit, seqQ_goto, blockQ_normal, blockQ_ret, blockQ_exit, blockQ_goto, condW_bool, loopQ_ret, loopQ_exit, loopQ_goto, endQ_ret, endQ_normal,
 lss_i, leq_i, gtr_i, geq_i, eql_i, neq_i, eql_8, neq_8, lss_8, leq_8, gtr_8, geq_8, eql_s, neq_s, eql_b, neq_b, not_b, by_bys, by_nils, load_cp1, beq_true, beq_false, Bool.not_eq_true', decide_eq_true_eq, decide_eq_false_iff_not, decide_true, decide_false,
 Int.toNat_natCast, Int.ofNat_lt, Int.ofNat_le, Int.natCast_inj, Bool.false_eq_true, Bool.true_eq_false, extPV, List.getElem?_cons_zero, List.getElem?_cons_succ, nilckPV, Int.reduceToNat, Int.reduceLE, true_and, and_true, reduceCtorEq, or_false, false_or, or_true, Option.some.injEq, exists_eq_left', Bool.not_true, Bool.not_false, ne_eq, Int.reduceEq, not_true_eq_false, not_false_eq_true, Int.reduceLT, UInt8.reduceLT, UInt8.reduceLE, UInt8.reduceToNat]
      rw [show bareAt l = i by simp only [bareAt, find_at hlt hc hn]]
      exact end1 rfl Kp_int
    · simp (maxSteps := 1000000) (disch := omega) only [h0, h1, h7, h8, hlt, hc, iaddr_by hx, dbare1_spec, add_n, W_seq, W_region, W_cond, W_block, W_skip, W_label, W_exit, W_goto, W_ret, WO_cons, WO_consG, WO_nil, wantedA_eq, wantB, evOp, ev_tmp, ev_const, ev_fn, WN_some, WN_none, updO_some, updO_none, upd_eq,
 ↓reduceIte, Nat.reduceEqDiff, List.nil_append, List.cons_append, List.append_nil, List.map_cons, List.map_nil, env0_zero, env0_succ, env0_nil, Option.map_some, Option.map_none, seqQ_normal, seqQ_ret, seqQ_exit, seqQ_goto, blockQ_normal, blockQ_ret, blockQ_exit, blockQ_goto, condW_bool, loopQ_ret, loopQ_exit, loopQ_goto, endQ_ret, endQ_normal,
 lss_i, leq_i, gtr_i, geq_i, eql_i, neq_i, eql_8, neq_8, lss_8, leq_8, gtr_8, geq_8, eql_s, neq_s, eql_b, neq_b, not_b, by_bys, by_nils, load_cp1, beq_true, beq_false, Bool.not_eq_true', decide_eq_true_eq, decide_eq_false_iff_not, decide_true, decide_false,
 Int.toNat_natCast, Int.ofNat_lt, Int.ofNat_le, Int.natCast_inj, Bool.false_eq_true, Bool.true_eq_false, extPV, List.getElem?_cons_zero, List.getElem?_cons_succ, nilckPV, Int.reduceToNat, Int.reduceLE, true_and, and_true, reduceCtorEq, or_false, false_or, or_true, Option.some.injEq, exists_eq_left', Bool.not_true, Bool.not_false, ne_eq, Int.reduceEq, not_true_eq_false, not_false_eq_true, Int.reduceLT, UInt8.reduceLT, UInt8.reduceLE, UInt8.reduceToNat]
      refine loopQ_intro (m := l.length - (i + 1)) (by omega) ?_
      rw [hI]
      refine ⟨i + 1, rfl, by omega, fun j hj => ?_, rfl, h0, h1, h7, rfl⟩
      by_cases hji : j = i
      · subst hji; simpa using hc
      · exact hn j (by omega)
  · simp (maxSteps := 1000000) (disch := omega) only [h0, h1, h7, h8, hlt, W_seq, W_region, W_cond, W_block, W_skip, W_label, W_exit, W_goto, W_ret, WO_cons, WO_consG, WO_nil, wantedA_eq, wantB, evOp, ev_tmp, ev_const, ev_fn, WN_some, WN_none, updO_some, updO_none, upd_eq,
 ↓reduceIte, Nat.reduceEqDiff, List.nil_append, List.cons_append, List.append_nil, List.map_cons, List.map_nil, env0_zero, env0_succ, env0_nil, Option.map_some, Option.map_none, seqQ_normal, seqQ_ret, seqQ_exit, seqQ_goto, blockQ_normal, blockQ_ret, blockQ_exit, blockQ_goto, condW_bool, loopQ_ret, loopQ_exit, loopQ_goto, endQ_ret, endQ_normal,
 lss_i, leq_i, gtr_i, geq_i, eql_i, neq_i, eql_8, neq_8, lss_8, leq_8, gtr_8, geq_8, eql_s, neq_s, eql_b, neq_b, not_b, by_bys, by_nils, load_cp1, beq_true, beq_false, Bool.not_eq_true', decide_eq_true_eq, decide_eq_false_iff_not, decide_true, decide_false,
 Int.toNat_natCast, Int.ofNat_lt, Int.ofNat_le, Int.natCast_inj, Bool.false_eq_true, Bool.true_eq_false, extPV, List.getElem?_cons_zero, List.getElem?_cons_succ, nilckPV, Int.reduceToNat, Int.reduceLE, true_and, and_true, reduceCtorEq, or_false, false_or, or_true, Option.some.injEq, exists_eq_left', Bool.not_true, Bool.not_false, ne_eq, Int.reduceEq, not_true_eq_false, not_false_eq_true, Int.reduceLT, UInt8.reduceLT, UInt8.reduceLE, UInt8.reduceToNat]
    rw [show bareAt l = -1 by simp only [bareAt, find_none (fun j hj => hn j (by omega))]]
    exact end1 rfl Kp_int

theorem dbare_spec {x : PV} {l : List UInt8} (hx : x.by = some l) (hl : l.length < 4611686018427387904) : call prog (.fn 20 []) [x] st = some (.int .i64 (bareAt l), st) := by
  refine call_of_W prog_20 ?_
  unfold F_dots_bare; dsimp only
  simp (maxSteps := 1000000) (disch := omega) only [IndexFunc_spec hx hl, W_seq, W_region, W_cond, W_block, W_skip, W_label, W_exit, W_goto, W_ret, WO_cons, WO_consG, WO_nil, wantedA_eq, wantB, evOp, ev_tmp, ev_const, ev_fn, WN_some, WN_none, updO_some, updO_none, upd_eq,
 ↓reduceIte, Nat.reduceEqDiff, List.nil_append, List.cons_append, List.append_nil, List.map_cons, List.map_nil, env0_zero, env0_succ, env0_nil, Option.map_some, Option.map_none, seqQ_normal, seqQ_ret, seqQ_exit, seqQ_goto, blockQ_normal, blockQ_ret, blockQ_exit, blockQ_goto, condW_bool, loopQ_ret, loopQ_exit, loopQ_goto, endQ_ret, endQ_normal,
 lss_i, leq_i, gtr_i, geq_i, eql_i, neq_i, eql_8, neq_8, lss_8, leq_8, gtr_8, geq_8, eql_s, neq_s, eql_b, neq_b, not_b, by_bys, by_nils, load_cp1, beq_true, beq_false, Bool.not_eq_true', decide_eq_true_eq, decide_eq_false_iff_not, decide_true, decide_false,
 Int.toNat_natCast, Int.ofNat_lt, Int.ofNat_le, Int.natCast_inj, Bool.false_eq_true, Bool.true_eq_false, extPV, List.getElem?_cons_zero, List.getElem?_cons_succ, nilckPV, Int.reduceToNat, Int.reduceLE, true_and, and_true, reduceCtorEq, or_false, false_or, or_true, Option.some.injEq, exists_eq_left', Bool.not_true, Bool.not_false, ne_eq, Int.reduceEq, not_true_eq_false, not_false_eq_true, Int.reduceLT, UInt8.reduceLT, UInt8.reduceLE, UInt8.reduceToNat]
  exact end1 rfl Kp_int

theorem rbare_spec {x : PV} {l : List UInt8} (hx : x.by = some l) (hl : l.length < 4611686018427387904) : call prog (.fn 21 []) [x] st = some (.int .i64 (bareAt l), st) := by
  refine call_of_W prog_21 ?_
  unfold F_posthornref05_bare; dsimp only
  simp (maxSteps := 1000000) (disch := omega) only [len_by hx, W_seq, W_region, W_cond, W_block, W_skip, W_label, W_exit, W_goto, W_ret, WO_cons, WO_consG, WO_nil, wantedA_eq, wantB, evOp, ev_tmp, ev_const, ev_fn, WN_some, WN_none, updO_some, updO_none, upd_eq,
 ↓reduceIte, Nat.reduceEqDiff, List.nil_append, List.cons_append, List.append_nil, List.map_cons, List.map_nil, env0_zero, env0_succ, env0_nil, Option.map_some, Option.map_none, seqQ_normal, seqQ_ret, seqQ_exit, seqQ_goto, blockQ_normal, blockQ_ret, blockQ_exit, blockQ_goto, condW_bool, loopQ_ret, loopQ_exit, loopQ_goto, endQ_ret, endQ_normal,
 lss_i, leq_i, gtr_i, geq_i, eql_i, neq_i, eql_8, neq_8, lss_8, leq_8, gtr_8, geq_8, eql_s, neq_s, eql_b, neq_b, not_b, by_bys, by_nils, load_cp1, beq_true, beq_false, Bool.not_eq_true', decide_eq_true_eq, decide_eq_false_iff_not, decide_true, decide_false,
 Int.toNat_natCast, Int.ofNat_lt, Int.ofNat_le, Int.natCast_inj, Bool.false_eq_true, Bool.true_eq_false, extPV, List.getElem?_cons_zero, List.getElem?_cons_succ, nilckPV, Int.reduceToNat, Int.reduceLE, true_and, and_true, reduceCtorEq, or_false, false_or, or_true, Option.some.injEq, exists_eq_left', Bool.not_true, Bool.not_false, ne_eq, Int.reduceEq, not_true_eq_false, not_false_eq_true, Int.reduceLT, UInt8.reduceLT, UInt8.reduceLE, UInt8.reduceToNat]
  obtain ⟨I, hI⟩ : ∃ I : Nat → Env → St → Prop, I = fun n e s => ∃ i : Nat, n = l.length - i ∧ i ≤ l.length ∧ (∀ j, j < i → crlf (l.getD j 0) = false) ∧ s = { boxes := st.boxes, toks := st.toks, loops := st.loops, low := st.boxes.length } ∧ e 0 = x ∧ e 3 = .int .i64 (i : Int) := ⟨_, rfl⟩
  refine W_loop I ?_ (n := l.length) (by rw [hI]; exact ⟨0, rfl, by omega, fun j hj => by omega, rfl, rfl, rfl⟩)
  intro n e s h
  rw [hI] at h
  obtain ⟨i, rfl, hi, hn, rfl, h0, h3⟩ := h
  have next : crlf (l.getD i 0) = false → ∀ j, j < i + 1 → crlf (l.getD j 0) = false := fun hc j hj => by
    by_cases hji : j = i
    · subst hji; exact hc
    · exact hn j (by omega)
  by_cases hlt : i < l.length
  · by_cases h13 : l.getD i 0 = 13
    · simp (maxSteps := 1000000) (disch := omega) only [h0, h3, hlt, h13, len_by hx, iaddr_by hx, W_seq, W_region, W_cond, W_block, W_skip, W_label, W_exit, W_goto, W_ret, WO_cons, WO_consG, WO_nil, wantedA_eq, wantB, evOp, ev_tmp, ev_const, ev_fn, WN_some, WN_none, updO_some, updO_none, upd_eq,
 ↓reduceIte, Nat.reduceEqDiff, List.nil_append, List.cons_append, List.append_nil, List.map_cons, List.map_nil, env0_zero, env0_succ, env0_nil, Option.map_some, Option.map_none, seqQ_normal, seqQ_ret, seqQ_exit, seqQ_goto, blockQ_normal, blockQ_ret, blockQ_exit, blockQ_goto, condW_bool, loopQ_ret, loopQ_exit, loopQ_goto, endQ_ret, endQ_normal,
 lss_i, leq_i, gtr_i, geq_i, eql_i, neq_i, eql_8, neq_8, lss_8, leq_8, gtr_8, geq_8, eql_s, neq_s, eql_b, neq_b, not_b, by_bys, by_nils, load_cp1, beq_true, beq_false, Bool.not_eq_true', decide_eq_true_eq, decide_eq_false_iff_not, decide_true, decide_false,
 Int.toNat_natCast, Int.ofNat_lt, Int.ofNat_le, Int.natCast_inj, Bool.false_eq_true, Bool.true_eq_false, extPV, List.getElem?_cons_zero, List.getElem?_cons_succ, nilckPV, Int.reduceToNat, Int.reduceLE, true_and, and_true, reduceCtorEq, or_false, false_or, or_true, Option.some.injEq, exists_eq_left', Bool.not_true, Bool.not_false, ne_eq, Int.reduceEq, not_true_eq_false, not_false_eq_true, Int.reduceLT, UInt8.reduceLT, UInt8.reduceLE, UInt8.reduceToNat]
      rw [show bareAt l = i by simp only [bareAt, find_at hlt (p := crlf) (by simp only [crlf, h13, true_or, decide_true]) hn]]
      exact end1 rfl Kp_int
    · by_cases h10 : l.getD i 0 = 10
      · simp (maxSteps := 1000000) (disch := omega) only [h0, h3, hlt, h13, eq_true h10, len_by hx, iaddr_by hx, W_seq, W_region, W_cond, W_block, W_skip, W_label, W_exit, W_goto, W_ret, WO_cons, WO_consG, WO_nil, wantedA_eq, wantB, evOp, ev_tmp, ev_const, ev_fn, WN_some, WN_none, updO_some, updO_none, upd_eq,
 ↓reduceIte, Nat.reduceEqDiff, List.nil_append, List.cons_append, List.append_nil, List.map_cons, List.map_nil, env0_zero, env0_succ, env0_nil, Option.map_some, Option.map_none, seqQ_normal, seqQ_ret, seqQ_exit, seqQ_goto, blockQ_normal, blockQ_ret, blockQ_exit, blockQ_goto, condW_bool, loopQ_ret, loopQ_exit, loopQ_goto, endQ_ret, endQ_normal,
 lss_i, leq_i, gtr_i, geq_i, eql_i, neq_i, eql_8, neq_8, lss_8, leq_8, gtr_8, geq_8, eql_s, neq_s, eql_b, neq_b, not_b, by_bys, by_nils, load_cp1, beq_true, beq_false, Bool.not_eq_true', decide_eq_true_eq, decide_eq_false_iff_not, decide_true, decide_false,
 Int.toNat_natCast, Int.ofNat_lt, Int.ofNat_le, Int.natCast_inj, Bool.false_eq_true, Bool.true_eq_false, extPV, List.getElem?_cons_zero, List.getElem?_cons_succ, nilckPV, Int.reduceToNat, Int.reduceLE, true_and, and_true, reduceCtorEq, or_false, false_or, or_true, Option.some.injEq, exists_eq_left', Bool.not_true, Bool.not_false, ne_eq, Int.reduceEq, not_true_eq_false, not_false_eq_true, Int.reduceLT, UInt8.reduceLT, UInt8.reduceLE, UInt8.reduceToNat]
        rw [show bareAt l = i by simp only [bareAt, find_at hlt (p := crlf) (by simp only [crlf, h10, or_true, decide_true]) hn]]
        exact end1 rfl Kp_int
      · simp (maxSteps := 1000000) (disch := omega) only [h0, h3, hlt, h13, h10, len_by hx, iaddr_by hx, add_n, W_seq, W_region, W_cond, W_block, W_skip, W_label, W_exit, W_goto, W_ret, WO_cons, WO_consG, WO_nil, wantedA_eq, wantB, evOp, ev_tmp, ev_const, ev_fn, WN_some, WN_none, updO_some, updO_none, upd_eq,
 ↓reduceIte, Nat.reduceEqDiff, List.nil_append, List.cons_append, List.append_nil, List.map_cons, List.map_nil, env0_zero, env0_succ, env0_nil, Option.map_some, Option.map_none, seqQ_normal, seqQ_ret, seqQ_exit, seqQ_goto, blockQ_normal, blockQ_ret, blockQ_exit, blockQ_goto, condW_bool, loopQ_ret, loopQ_exit, loopQ_goto, endQ_ret, endQ_normal,
 lss_i, leq_i, gtr_i, geq_i, eql_i, neq_i, eql_8, neq_8, lss_8, leq_8, gtr_8, geq_8, eql_s, neq_s, eql_b, neq_b, not_b, by_bys, by_nils, load_cp1, beq_true, beq_false, Bool.not_eq_true', decide_eq_true_eq, decide_eq_false_iff_not, decide_true, decide_false,
 Int.toNat_natCast, Int.ofNat_lt, Int.ofNat_le, Int.natCast_inj, Bool.false_eq_true, Bool.true_eq_false, extPV, List.getElem?_cons_zero, List.getElem?_cons_succ, nilckPV, Int.reduceToNat, Int.reduceLE, true_and, and_true, reduceCtorEq, or_false, false_or, or_true, Option.some.injEq, exists_eq_left', Bool.not_true, Bool.not_false, ne_eq, Int.reduceEq, not_true_eq_false, not_false_eq_true, Int.reduceLT, UInt8.reduceLT, UInt8.reduceLE, UInt8.reduceToNat]
        refine loopQ_intro (m := l.length - (i + 1)) (by omega) ?_
        rw [hI]
        exact ⟨i + 1, rfl, by omega, next (by simp only [crlf, h13, h10, or_self, decide_false]), rfl, h0, rfl⟩
  · simp (maxSteps := 1000000) (disch := omega) only [h0, h3, hlt, len_by hx, W_seq, W_region, W_cond, W_block, W_skip, W_label, W_exit, W_goto, W_ret, WO_cons, WO_consG, WO_nil, wantedA_eq, wantB, evOp, ev_tmp, ev_const, ev_fn, WN_some, WN_none, updO_some, updO_none, upd_eq,
 ↓reduceIte, Nat.reduceEqDiff, List.nil_append, List.cons_append, List.append_nil, List.map_cons, List.map_nil, env0_zero, env0_succ, env0_nil, Option.map_some, Option.map_none, seqQ_normal, seqQ_ret, seqQ_exit, seqQ_goto, blockQ_normal, blockQ_ret, blockQ_exit, blockQ_goto, condW_bool, loopQ_ret, loopQ_exit, loopQ_goto, endQ_ret, endQ_normal,
 lss_i, leq_i, gtr_i, geq_i, eql_i, neq_i, eql_8, neq_8, lss_8, leq_8, gtr_8, geq_8, eql_s, neq_s, eql_b, neq_b, not_b, by_bys, by_nils, load_cp1, beq_true, beq_false, Bool.not_eq_true', decide_eq_true_eq, decide_eq_false_iff_not, decide_true, decide_false,
 Int.toNat_natCast, Int.ofNat_lt, Int.ofNat_le, Int.natCast_inj, Bool.false_eq_true, Bool.true_eq_false, extPV, List.getElem?_cons_zero, List.getElem?_cons_succ, nilckPV, Int.reduceToNat, Int.reduceLE, true_and, and_true, reduceCtorEq, or_false, false_or, or_true, Option.some.injEq, exists_eq_left', Bool.not_true, Bool.not_false, ne_eq, Int.reduceEq, not_true_eq_false, not_false_eq_true, Int.reduceLT, UInt8.reduceLT, UInt8.reduceLE, UInt8.reduceToNat]
    rw [show bareAt l = -1 by simp only [bareAt, find_none (fun j hj => hn j (by omega))]]
    exact end1 rfl Kp_int
/-! ### Copies: a new slice that owns its room -/
theorem app8_nils {x : PV} {l : List UInt8} (hx : x.by = some l) (h : l.length ≤ room) : app8 st .nils x = if l = [] then some (.nils, st) else some (.bys (.own st.toks.length) l, { st with toks := st.toks ++ [true] }) := by
  simp only [app8, src8_by hx, freshT, h, if_true]

/-- A copy: nothing of nothing. -/
def copyV (st : St) (l : List UInt8) : PV := if l = [] then .nils else .bys (.own st.toks.length) l
def copyS (st : St) (l : List UInt8) : St := if l = [] then st else { st with toks := st.toks ++ [true] }
theorem copyV_by {l : List UInt8} : (copyV st l).by = some l := by
  unfold copyV; split
  · rename_i h; rw [h]; rfl
  · rfl

/-- A new slice is handed back. -/
theorem leave_new {l : List UInt8} : leave st { boxes := st.boxes, toks := st.toks ++ [true], loops := st.loops, low := st.boxes.length } (.bys (.own st.toks.length) l) = (.bys (.own st.toks.length) l, { st with toks := st.toks ++ [true] }) := by
  simp [leave, PV.inB, keepRes, keepVal, keepLeaf, keepTok]

theorem Copy_spec {x : PV} {l : List UInt8} (hx : x.by = some l) (hl : l.length ≤ room) : call prog (.fn 14 []) [x] st = some (copyV st l, copyS st l) := by
  refine call_of_W prog_14 ?_
  unfold F_posthornref01_Copy; dsimp only
  by_cases h : l = []
  · simp (maxSteps := 1000000) (disch := omega) only [app8_nils hx hl, h, W_seq, W_region, W_cond, W_block, W_skip, W_label, W_exit, W_goto, W_ret, WO_cons, WO_consG, WO_nil, wantedA_eq, wantB, evOp, ev_tmp, ev_const, ev_fn, WN_some, WN_none, updO_some, updO_none, upd_eq,
 ↓reduceIte, Nat.reduceEqDiff, List.nil_append, List.cons_append, List.append_nil, List.map_cons, List.map_nil, env0_zero, env0_succ, env0_nil, Option.map_some, Option.map_none, seqQ_normal, seqQ_ret, seqQ_exit, seqQ_goto, blockQ_normal, blockQ_ret, blockQ_exit, blockQ_goto, condW_bool, loopQ_ret, loopQ_exit, loopQ_goto, endQ_ret, endQ_normal,
 lss_i, leq_i, gtr_i, geq_i, eql_i, neq_i, eql_8, neq_8, lss_8, leq_8, gtr_8, geq_8, eql_s, neq_s, eql_b, neq_b, not_b, by_bys, by_nils, load_cp1, beq_true, beq_false, Bool.not_eq_true', decide_eq_true_eq, decide_eq_false_iff_not, decide_true, decide_false,
 Int.toNat_natCast, Int.ofNat_lt, Int.ofNat_le, Int.natCast_inj, Bool.false_eq_true, Bool.true_eq_false, extPV, List.getElem?_cons_zero, List.getElem?_cons_succ, nilckPV, Int.reduceToNat, Int.reduceLE, true_and, and_true, reduceCtorEq, or_false, false_or, or_true, Option.some.injEq, exists_eq_left', Bool.not_true, Bool.not_false, ne_eq, Int.reduceEq, not_true_eq_false, not_false_eq_true, Int.reduceLT, UInt8.reduceLT, UInt8.reduceLE, UInt8.reduceToNat]
    simp only [copyV, copyS, if_true]
    exact end1 rfl Kp_nils
  · simp (maxSteps := 1000000) (disch := omega) only [app8_nils hx hl, h, W_seq, W_region, W_cond, W_block, W_skip, W_label, W_exit, W_goto, W_ret, WO_cons, WO_consG, WO_nil, wantedA_eq, wantB, evOp, ev_tmp, ev_const, ev_fn, WN_some, WN_none, updO_some, updO_none, upd_eq,
 ↓reduceIte, Nat.reduceEqDiff, List.nil_append, List.cons_append, List.append_nil, List.map_cons, List.map_nil, env0_zero, env0_succ, env0_nil, Option.map_some, Option.map_none, seqQ_normal, seqQ_ret, seqQ_exit, seqQ_goto, blockQ_normal, blockQ_ret, blockQ_exit, blockQ_goto, condW_bool, loopQ_ret, loopQ_exit, loopQ_goto, endQ_ret, endQ_normal,
 lss_i, leq_i, gtr_i, geq_i, eql_i, neq_i, eql_8, neq_8, lss_8, leq_8, gtr_8, geq_8, eql_s, neq_s, eql_b, neq_b, not_b, by_bys, by_nils, load_cp1, beq_true, beq_false, Bool.not_eq_true', decide_eq_true_eq, decide_eq_false_iff_not, decide_true, decide_false,
 Int.toNat_natCast, Int.ofNat_lt, Int.ofNat_le, Int.natCast_inj, Bool.false_eq_true, Bool.true_eq_false, extPV, List.getElem?_cons_zero, List.getElem?_cons_succ, nilckPV, Int.reduceToNat, Int.reduceLE, true_and, and_true, reduceCtorEq, or_false, false_or, or_true, Option.some.injEq, exists_eq_left', Bool.not_true, Bool.not_false, ne_eq, Int.reduceEq, not_true_eq_false, not_false_eq_true, Int.reduceLT, UInt8.reduceLT, UInt8.reduceLE, UInt8.reduceToNat]
    simp only [copyV, copyS, h, if_false]
    exact ⟨_, rfl, leave_new⟩
end Go.Ab

/-
  Slices that grow: what a function has made itself.
-/
namespace Go.Ab
set_option linter.unusedVariables false
set_option linter.unusedSimpArgs false

/-- A state that has grown: its boxes and loops are these, its first tokens those. -/
structure GrewAt (B : List (List PV)) (T : List Bool) (L : List LoopS) (lo : Nat) (s : St) : Prop where
  bx : s.boxes = B
  lp : s.loops = L
  lw : s.low = lo
  tk : s.toks.take T.length = T
/-- A state of a function that was called in st and has laid no box. -/
abbrev Grew (st s : St) : Prop := GrewAt st.boxes st.toks st.loops st.boxes.length s

variable {B : List (List PV)} {T : List Bool} {L : List LoopS} {lo : Nat}
theorem GrewAt.len {s : St} (h : GrewAt B T L lo s) : T.length ≤ s.toks.length := by
  have := congrArg List.length h.tk
  simp at this; omega
theorem Grew.start {st : St} : Grew st { boxes := st.boxes, toks := st.toks, loops := st.loops, low := st.boxes.length } := ⟨rfl, rfl, rfl, by simp⟩
theorem GrewAt.start {ts : List Bool} : GrewAt B T L lo ⟨B, T ++ ts, L, lo⟩ := ⟨rfl, rfl, rfl, by simp⟩
/-- One more token. -/
def St.tok1 (s : St) : St := { s with toks := s.toks ++ [true] }
theorem GrewAt.tok1 {s : St} (h : GrewAt B T L lo s) : GrewAt B T L lo s.tok1 := ⟨h.bx, h.lp, h.lw, by
  show (s.toks ++ [true]).take T.length = T
  rw [List.take_append_of_le_length h.len]; exact h.tk⟩

/-- A slice that a function has made itself, or none. -/
def Own (st s : St) (esz : Nat) (v : PV) (xs : List PV) : Prop := (v = .nils ∧ xs = []) ∨ ∃ i, v = .sl esz (.own i) xs ∧ st.toks.length ≤ i ∧ s.toks[i]? = some true
def OwnB (st s : St) (v : PV) (l : List UInt8) : Prop := (v = .nils ∧ l = []) ∨ ∃ i, v = .bys (.own i) l ∧ st.toks.length ≤ i ∧ s.toks[i]? = some true

theorem Own.tok1 {st s : St} {esz : Nat} {v : PV} {xs : List PV} (h : Own st s esz v xs) : Own st s.tok1 esz v xs := by
  rcases h with h | ⟨i, h1, h2, h3⟩
  · exact .inl h
  · exact .inr ⟨i, h1, h2, by show (s.toks ++ [true])[i]? = some true; rw [List.getElem?_append_left (List.getElem?_eq_some_iff.1 h3).1]; exact h3⟩
theorem OwnB.tok1 {st s : St} {v : PV} {l : List UInt8} (h : OwnB st s v l) : OwnB st s.tok1 v l := by
  rcases h with h | ⟨i, h1, h2, h3⟩
  · exact .inl h
  · exact .inr ⟨i, h1, h2, by show (s.toks ++ [true])[i]? = some true; rw [List.getElem?_append_left (List.getElem?_eq_some_iff.1 h3).1]; exact h3⟩
theorem OwnB.by {st s : St} {v : PV} {l : List UInt8} (h : OwnB st s v l) : v.by = some l := by
  rcases h with ⟨rfl, rfl⟩ | ⟨i, rfl, _, _⟩ <;> rfl

/-- What append leaves of the tokens. -/
def appS (s : St) (v : PV) : St := match v with
  | .sl _ (.own i) _ => { s with toks := s.toks.set i false ++ [true] }
  | .bys (.own i) _ => { s with toks := s.toks.set i false ++ [true] }
  | _ => s.tok1
theorem appS_len {s : St} {v : PV} : (appS s v).toks.length = s.toks.length + 1 := by
  unfold appS; split <;> simp [St.tok1]

theorem appV_own {st s : St} {esz : Nat} {v u : PV} {xs : List PV} {t : Tok} (h : Own st s esz v xs) (hl : xs.length + 1 ≤ room) :
    appV esz s v (.sl esz t [u]) = some (.sl esz (.own s.toks.length) (xs ++ [u]), appS s v) := by
  rcases h with ⟨rfl, rfl⟩ | ⟨i, rfl, h2, h3⟩
  · simp [appV, srcV, freshT, room, appS, St.tok1]
  · simp [appV, srcV, freshT, appTok, appS, h3, hl]
theorem app8_ownS {st s : St} {v y : PV} {l m : List UInt8} (h : OwnB st s v l) (hy : src8 s y = some m) (hm : m ≠ []) (hl : l.length + m.length ≤ room) :
    app8 s v y = some (.bys (.own s.toks.length) (l ++ m), appS s v) := by
  rcases h with ⟨rfl, rfl⟩ | ⟨i, rfl, h2, h3⟩
  · simp at hl
    simp [app8, hy, hm, freshT, hl, appS, St.tok1]
  · simp [app8, hy, hm, freshT, appTok, appS, h3, hl]
theorem app8_own {st s : St} {v y : PV} {l m : List UInt8} (h : OwnB st s v l) (hy : y.by = some m) (hm : m ≠ []) (hl : l.length + m.length ≤ room) :
    app8 s v y = some (.bys (.own s.toks.length) (l ++ m), appS s v) := app8_ownS h (src8_by hy) hm hl
theorem app8_nil {s : St} {v y : PV} {l : List UInt8} (hv : v.by = some l) (hy : y.by = some []) : app8 s v y = some (v, s) := by
  rcases by_cases' hv with ⟨rfl, rfl⟩ | ⟨t, rfl⟩ <;> simp [app8, src8_by hy]

theorem Own.app {st s : St} {esz : Nat} {v : PV} {xs ys : List PV} (hg : GrewAt B st.toks L lo s) (h : Own st s esz v xs) : GrewAt B st.toks L lo (appS s v) ∧ Own st (appS s v) esz (.sl esz (.own s.toks.length) ys) ys := by
  have hlen := hg.len
  rcases h with ⟨rfl, rfl⟩ | ⟨i, rfl, h2, h3⟩
  · refine ⟨hg.tok1, .inr ⟨_, rfl, hlen, ?_⟩⟩
    simp [appS, St.tok1]
  · refine ⟨⟨hg.bx, hg.lp, hg.lw, ?_⟩, .inr ⟨_, rfl, hlen, ?_⟩⟩
    · show (s.toks.set i false ++ [true]).take st.toks.length = st.toks
      rw [List.take_append_of_le_length (by simpa using hlen), List.take_set_of_le h2]; exact hg.tk
    · show (s.toks.set i false ++ [true])[s.toks.length]? = some true
      rw [List.getElem?_append_right (by simp)]; simp
theorem OwnB.app {st s : St} {v : PV} {l m : List UInt8} (hg : GrewAt B st.toks L lo s) (h : OwnB st s v l) : GrewAt B st.toks L lo (appS s v) ∧ OwnB st (appS s v) (.bys (.own s.toks.length) m) m := by
  have hlen := hg.len
  rcases h with ⟨rfl, rfl⟩ | ⟨i, rfl, h2, h3⟩
  · refine ⟨hg.tok1, .inr ⟨_, rfl, hlen, ?_⟩⟩
    simp [appS, St.tok1]
  · refine ⟨⟨hg.bx, hg.lp, hg.lw, ?_⟩, .inr ⟨_, rfl, hlen, ?_⟩⟩
    · show (s.toks.set i false ++ [true]).take st.toks.length = st.toks
      rw [List.take_append_of_le_length (by simpa using hlen), List.take_set_of_le h2]; exact hg.tk
    · show (s.toks.set i false ++ [true])[s.toks.length]? = some true
      rw [List.getElem?_append_right (by simp)]; simp

/-- Bytes appended, whatever they are. -/
theorem app8_any {st s : St} {v y : PV} {l m : List UInt8} (hg : GrewAt B st.toks L lo s) (h : OwnB st s v l) (hy : y.by = some m) (hl : l.length + m.length ≤ room) :
    ∃ v' s', app8 s v y = some (v', s') ∧ GrewAt B st.toks L lo s' ∧ OwnB st s' v' (l ++ m) := by
  by_cases hm : m = []
  · subst hm
    exact ⟨v, s, app8_nil h.by hy, hg, by simpa using h⟩
  · obtain ⟨g2, o2⟩ := OwnB.app (m := l ++ m) hg h
    exact ⟨_, _, app8_own h hy hm hl, g2, o2⟩

/-- Bytes in a box of two's middle. -/
theorem GrewAt.loops {s : St} {L' : List LoopS} (h : GrewAt B T L lo s) : GrewAt B T L' lo { s with loops := L' } := ⟨h.bx, rfl, h.lw, h.tk⟩
theorem OwnB.loops {st s : St} {v : PV} {l : List UInt8} {L' : List LoopS} (h : OwnB st s v l) : OwnB st { s with loops := L' } v l := h
theorem store_own {st s : St} {v w : PV} {l : List UInt8} {c0 c2 : List PV} (hg : GrewAt (B ++ [c0, [w], c2]) T L lo s) (ho : OwnB st s v l) :
    ∃ lo' s', storePV s 1 (.ptr (B.length + 1) 0) v = some s' ∧ GrewAt (B ++ [c0, [v], c2]) T L lo' s' ∧ OwnB st s' v l ∧ (lo' = lo ∨ lo' = min lo (B.length + 1)) ∧ (v = .nils ∨ lo' ≤ B.length + 1) := by
  obtain ⟨bs, ts, ls, lo0⟩ := s
  obtain ⟨hb, hl, hw, ht⟩ := hg
  simp only at hb hl hw ht
  subst hb hl hw
  have hget : (B ++ [c0, [w], c2])[B.length + 1]? = some [w] := by
    rw [List.getElem?_append_right (by omega)]; simp
  have hset : ∀ u, (B ++ [c0, [w], c2]).set (B.length + 1) u = B ++ [c0, u, c2] := fun u => by
    rw [List.set_append_right _ _ (by omega)]; simp
  rcases ho with ⟨rfl, rfl⟩ | ⟨i, rfl, h2, h3⟩
  · refine ⟨lo0, ⟨B ++ [c0, [.nils], c2], ts, ls, lo0⟩, ?_, ⟨rfl, rfl, rfl, ht⟩, .inl ⟨rfl, rfl⟩, .inl rfl, .inl rfl⟩
    simp [storePV, hget, hset, PV.cells, PV.inB, leafOk, setCells, hasTok, tokOf]
  · refine ⟨min lo0 (B.length + 1), ⟨B ++ [c0, [.bys (.own i) l], c2], ts, ls, min lo0 (B.length + 1)⟩, ?_, ⟨rfl, rfl, rfl, ht⟩, .inr ⟨i, rfl, h2, h3⟩, .inr rfl, .inr (Nat.min_le_right _ _)⟩
    simp [storePV, hget, hset, PV.cells, PV.inB, leafOk, setCells, hasTok, tokOf]
theorem load_own {s : St} {w : PV} {c0 c2 : List PV} (hg : GrewAt (B ++ [c0, [w], c2]) T L lo s) : loadPV s false 1 (.ptr (B.length + 1) 0) = some w := by
  have hget : (B ++ [c0, [w], c2])[B.length + 1]? = some [w] := by
    rw [List.getElem?_append_right (by omega)]; simp
  simp [loadPV, hg.bx, hget, readCells]

/-- A slice of values, new to the caller. -/
def newSl (st : St) (esz : Nat) (xs : List PV) : PV := if xs = [] then .nils else .sl esz (.own st.toks.length) xs
def newB (st : St) (l : List UInt8) : PV := if l = [] then .nils else .bys (.own st.toks.length) l
def newS (st : St) (b : Bool) : St := if b then st else st.tok1
theorem newB_by {st : St} {l : List UInt8} : (newB st l).by = some l := by
  unfold newB; split
  · rename_i h; rw [h]; rfl
  · rfl

theorem Own.ne {st s : St} {esz : Nat} {v : PV} {xs : List PV} (h : Own st s esz v xs) (hne : v = .nils ↔ xs = []) : True := trivial

/-- A function's one result is what it has made. -/
theorem leave_own {st s : St} {esz : Nat} {v : PV} {xs : List PV} (hg : Grew st s) (h : Own st s esz v xs) (hne : xs = [] → v = .nils) : leave st s v = (newSl st esz xs, newS st xs.isEmpty) := by
  obtain ⟨hb, hl, hw, ht⟩ := hg
  obtain ⟨bs, ts, ls, lo⟩ := s
  simp only at hb hl hw ht
  subst hb hl hw
  rcases h with ⟨rfl, rfl⟩ | ⟨i, rfl, h2, h3⟩
  · simp [leave, PV.inB, keepRes, keepVal, keepLeaf, newSl, newS, ht]
  · by_cases hx : xs = []
    · have := hne hx; cases this
    · simp only at h3
      simp [leave, PV.inB, keepRes, keepVal, keepLeaf, keepTok, newSl, newS, hx, ht, h3, show ¬ i < st.toks.length by omega, St.tok1]
theorem leave_ownB {st s : St} {v : PV} {l : List UInt8} (hg : Grew st s) (h : OwnB st s v l) (hne : l = [] → v = .nils) : leave st s v = (newB st l, newS st l.isEmpty) := by
  obtain ⟨hb, hl, hw, ht⟩ := hg
  obtain ⟨bs, ts, ls, lo⟩ := s
  simp only at hb hl hw ht
  subst hb hl hw
  rcases h with ⟨rfl, rfl⟩ | ⟨i, rfl, h2, h3⟩
  · simp [leave, PV.inB, keepRes, keepVal, keepLeaf, newB, newS, ht]
  · by_cases hx : l = []
    · have := hne hx; cases this
    · simp only at h3
      simp [leave, PV.inB, keepRes, keepVal, keepLeaf, keepTok, newB, newS, hx, ht, h3, show ¬ i < st.toks.length by omega, St.tok1]
theorem lit1 {esz : Nat} {v u z : PV} (h : strip v = some u) (hc : u.cells.length = esz) : litFill esz (List.replicate 1 z) [(0, v)] = some [u] := by
  simp [litFill, h, hc]
/-- New bytes and a number are handed back. -/
theorem leave_ownB2 {st s : St} {v : PV} {l : List UInt8} {k : IntKind} {n : Int} {bs : List (List PV)} (hg : GrewAt (st.boxes ++ bs) st.toks st.loops st.boxes.length s) (h : OwnB st s v l) (hne : l ≠ []) :
    leave st s (.tup [v, .int k n]) = (.tup [.bys (.own st.toks.length) l, .int k n], st.tok1) := by
  obtain ⟨hb, hl, hw, ht⟩ := hg
  obtain ⟨b, ts, ls, lo⟩ := s
  simp only at hb hl hw ht
  subst hb hl hw
  rcases h with ⟨_, rfl⟩ | ⟨i, rfl, h2, h3⟩
  · exact absurd rfl hne
  · simp only at h3
    simp [leave, PV.inB, PV.inB.inBAll, keepRes, keepVals, keepVal, keepLeaf, keepTok, ht, h3, show ¬ i < st.toks.length by omega, St.tok1]
theorem freshT_eq {s : St} : freshT s = (.own s.toks.length, s.tok1) := rfl
theorem tok1_len {s : St} : s.tok1.toks.length = s.toks.length + 1 := by simp [St.tok1]

/-- A value of one cell. -/
def Leaf (v : PV) : Prop := v.cells = [v] ∧ leafOk v = true
theorem Leaf_by {x : PV} {l : List UInt8} (h : x.by = some l) : Leaf x := by
  rcases by_cases' h with ⟨rfl, rfl⟩ | ⟨t, rfl⟩ <;> exact ⟨rfl, rfl⟩
theorem Leaf_int {k : IntKind} {n : Int} : Leaf (.int k n) := ⟨rfl, rfl⟩
theorem Leaf_bool {b : Bool} : Leaf (.bool b) := ⟨rfl, rfl⟩
theorem Leaf_str {s : List UInt8} : Leaf (.str s) := ⟨rfl, rfl⟩
theorem build2 {z0 z1 v0 v1 : PV} (h0 : Leaf v0) (h1 : Leaf v1) : buildCells [z0, z1] [(0, 1, v0), (1, 1, v1)] = some [v0, v1] := by
  simp [buildCells, h0.1, h0.2, h1.1, h1.2, setCells]
theorem build3 {z0 z1 z2 v0 v1 v2 : PV} (h0 : Leaf v0) (h1 : Leaf v1) (h2 : Leaf v2) : buildCells [z0, z1, z2] [(0, 1, v0), (1, 1, v1), (2, 1, v2)] = some [v0, v1, v2] := by
  simp [buildCells, h0.1, h0.2, h1.1, h1.2, h2.1, h2.2, setCells]
end Go.Ab

/-
  The document's lines.
-/
namespace Go.Ab
set_option linter.unusedVariables false
set_option linter.unusedSimpArgs false
variable {st : St} {e : Env}

/-- The lines of bytes, with whether each is ended; ahead of them stands what has been read of the first one. -/
def segs : List UInt8 → List UInt8 → List (List UInt8 × Bool)
  | [], acc => if acc = [] then [] else [(acc, false)]
  | [c], acc => [(acc ++ [c], false)]
  | c :: d :: r, acc => if c = 13 ∧ d = 10 then (acc, true) :: segs r [] else segs (d :: r) (acc ++ [c])

/-- Their places. -/
def place : Nat → List (List UInt8 × Bool) → List (Nat × List UInt8 × Bool)
  | _, [] => []
  | a, (b, w) :: r => (a, b, w) :: place (a + b.length + 2) r

def refLines (l : List UInt8) : List (Nat × List UInt8 × Bool) := place 0 (segs l [])

def lnV (q : Nat × List UInt8 × Bool) : PV := .agg [.int .i64 (q.1 : Int), .bys .no q.2.1, .bool q.2.2]

theorem segs_pair {l acc : List UInt8} {i : Nat} (h : pairAt l i = true) : segs (l.drop i) acc = (acc, true) :: segs (l.drop (i + 2)) [] := by
  simp only [pairAt, decide_eq_true_eq] at h
  obtain ⟨h1, h2, h3⟩ := h
  rw [List.drop_eq_getElem_cons (show i < l.length by omega), List.drop_eq_getElem_cons (show i + 1 < l.length by omega)]
  simp only [List.getD_eq_getElem?_getD, List.getElem?_eq_getElem (show i < l.length by omega), List.getElem?_eq_getElem (show i + 1 < l.length by omega), Option.getD_some] at h2 h3
  simp [segs, h2, h3]
theorem segs_step {l acc : List UInt8} {i : Nat} (h : pairAt l i = false) (hi : i < l.length) : segs (l.drop i) acc = segs (l.drop (i + 1)) (acc ++ [l.getD i 0]) := by
  simp only [pairAt, decide_eq_false_iff_not] at h
  rw [List.drop_eq_getElem_cons hi]
  have hg : l.getD i 0 = l[i] := by simp [List.getD, hi]
  rw [hg]
  by_cases h1 : i + 1 < l.length
  · rw [List.drop_eq_getElem_cons h1]
    have hg1 : l.getD (i + 1) 0 = l[i + 1] := by simp [List.getD, h1]
    rw [hg, hg1] at h
    simp only [segs]
    rw [if_neg (fun hc => h ⟨h1, hc⟩)]
  · rw [List.drop_of_length_le (show l.length ≤ i + 1 by omega)]
    simp [segs]
theorem segs_end {l acc : List UInt8} {i : Nat} (hi : l.length ≤ i) : segs (l.drop i) acc = if acc = [] then [] else [(acc, false)] := by
  rw [List.drop_of_length_le hi]; rfl

theorem take_drop_snoc {l : List UInt8} {a i : Nat} (ha : a ≤ i) (hi : i < l.length) : (l.take i).drop a ++ [l.getD i 0] = (l.take (i + 1)).drop a := by
  rw [List.take_succ_eq_append_getElem hi, List.drop_append_of_le_length (by simp; omega)]
  simp [List.getD, hi]

theorem Lines_spec {x : PV} {l : List UInt8} (hx : x.by = some l) (hl : l.length ≤ 1000000) : call prog (.fn 8 []) [x] st = some (newSl st 3 ((refLines l).map lnV), newS st ((refLines l).map lnV).isEmpty) := by
  refine call_of_W prog_8 ?_
  unfold F_posthornref05_Lines; dsimp only
  simp (maxSteps := 1000000) (disch := omega) only [len_by hx, W_seq, W_region, W_cond, W_block, W_skip, W_label, W_exit, W_goto, W_ret, WO_cons, WO_consG, WO_nil, wantedA_eq, wantB, evOp, ev_tmp, ev_const, ev_fn, WN_some, WN_none, updO_some, updO_none, upd_eq,
 ↓reduceIte, Nat.reduceEqDiff, List.nil_append, List.cons_append, List.append_nil, List.map_cons, List.map_nil, env0_zero, env0_succ, env0_nil, Option.map_some, Option.map_none, seqQ_normal, seqQ_ret, seqQ_exit, seqQ_goto, blockQ_normal, blockQ_ret, blockQ_exit, blockQ_goto, condW_bool, loopQ_ret, loopQ_exit, loopQ_goto, endQ_ret, endQ_normal,
 lss_i, leq_i, gtr_i, geq_i, eql_i, neq_i, eql_8, neq_8, lss_8, leq_8, gtr_8, geq_8, eql_s, neq_s, eql_b, neq_b, not_b, by_bys, by_nils, load_cp1, beq_true, beq_false, Bool.not_eq_true', decide_eq_true_eq, decide_eq_false_iff_not, decide_true, decide_false,
 Int.toNat_natCast, Int.ofNat_lt, Int.ofNat_le, Int.natCast_inj, Bool.false_eq_true, Bool.true_eq_false, extPV, List.getElem?_cons_zero, List.getElem?_cons_succ, nilckPV, Int.reduceToNat, Int.reduceLE, true_and, and_true, reduceCtorEq, or_false, false_or, or_true, Option.some.injEq, exists_eq_left', Bool.not_true, Bool.not_false, ne_eq, Int.reduceEq, not_true_eq_false, not_false_eq_true, Int.reduceLT, UInt8.reduceLT, UInt8.reduceLE, UInt8.reduceToNat]
  obtain ⟨I, hI⟩ : ∃ I : Nat → Env → St → Prop, I = fun n e s => ∃ (i a : Nat) (out : List (Nat × List UInt8 × Bool)) (v : PV), n = l.length - i ∧ a ≤ i ∧ i ≤ l.length ∧ out.length ≤ i ∧ refLines l = out ++ place a (segs (l.drop i) ((l.take i).drop a)) ∧
      Grew st s ∧ Own st s 3 v (out.map lnV) ∧ (out.map lnV = [] → v = .nils) ∧ e 0 = x ∧ e 3 = v ∧ e 4 = .int .i64 (a : Int) ∧ e 5 = .int .i64 (i : Int) := ⟨_, rfl⟩
  refine W_loop I ?_ (n := l.length) (by rw [hI]; exact ⟨0, 0, [], .nils, rfl, by omega, by omega, by simp, by simp [refLines], Grew.start, .inl ⟨rfl, rfl⟩, fun _ => rfl, rfl, rfl, rfl, rfl⟩)
  intro n e s h
  rw [hI] at h
  obtain ⟨i, a, out, v, rfl, hai, hil, hol, hr, hg, hown, hnil, h0, h3, h4, h5⟩ := h
  by_cases hlt : i < l.length
  · cases hp : pairAt l i with
    | true =>
      have hmid := midB_by (i := a) (j := i) hx
      have hxs : ∃ t, x = .bys t l := by
        rcases by_cases' hx with ⟨rfl, rfl⟩ | h
        · simp at hlt
        · exact h
      obtain ⟨t, rfl⟩ := hxs
      have hp2 : i + 1 < l.length := by simp only [pairAt, decide_eq_true_eq] at hp; exact hp.1
      have happ := appV_own (u := lnV (a, (l.take i).drop a, true)) (t := .own s.toks.length) hown.tok1 (by simp [room]; omega)
      obtain ⟨hg2, hown2⟩ := Own.app (ys := out.map lnV ++ [lnV (a, (l.take i).drop a, true)]) hg.tok1 hown.tok1
      have hlit : ∀ z, litFill 3 (List.replicate 1 z) [(0, .agg [.int .i64 (a : Int), (PV.bys t l).midB a i, .bool true])] = some [lnV (a, (l.take i).drop a, true)] := fun z => lit1 rfl rfl
      simp (maxSteps := 1000000) (disch := omega) only [h0, h3, h4, h5, hlt, hp, len_by hx, Pair_spec hx, slc_lohi hx, add_n, build3 Leaf_int (Leaf_by hmid) Leaf_bool, hlit, freshT_eq, happ, W_seq, W_region, W_cond, W_block, W_skip, W_label, W_exit, W_goto, W_ret, WO_cons, WO_consG, WO_nil, wantedA_eq, wantB, evOp, ev_tmp, ev_const, ev_fn, WN_some, WN_none, updO_some, updO_none, upd_eq,
 ↓reduceIte, Nat.reduceEqDiff, List.nil_append, List.cons_append, List.append_nil, List.map_cons, List.map_nil, env0_zero, env0_succ, env0_nil, Option.map_some, Option.map_none, seqQ_normal, seqQ_ret, seqQ_exit, seqQ_goto, blockQ_normal, blockQ_ret, blockQ_exit, blockQ_goto, condW_bool, loopQ_ret, loopQ_exit, loopQ_goto, endQ_ret, endQ_normal,
 lss_i, leq_i, gtr_i, geq_i, eql_i, neq_i, eql_8, neq_8, lss_8, leq_8, gtr_8, geq_8, eql_s, neq_s, eql_b, neq_b, not_b, by_bys, by_nils, load_cp1, beq_true, beq_false, Bool.not_eq_true', decide_eq_true_eq, decide_eq_false_iff_not, decide_true, decide_false,
 Int.toNat_natCast, Int.ofNat_lt, Int.ofNat_le, Int.natCast_inj, Bool.false_eq_true, Bool.true_eq_false, extPV, List.getElem?_cons_zero, List.getElem?_cons_succ, nilckPV, Int.reduceToNat, Int.reduceLE, true_and, and_true, reduceCtorEq, or_false, false_or, or_true, Option.some.injEq, exists_eq_left', Bool.not_true, Bool.not_false, ne_eq, Int.reduceEq, not_true_eq_false, not_false_eq_true, Int.reduceLT, UInt8.reduceLT, UInt8.reduceLE, UInt8.reduceToNat]
      refine loopQ_intro (m := l.length - (i + 2)) (by omega) ?_
      rw [hI]
      refine ⟨i + 2, i + 2, out ++ [(a, (l.take i).drop a, true)], _, rfl, by omega, by omega, by simp; omega, ?_, hg2, by rw [List.map_append]; exact hown2, fun hm => by simp at hm, h0, rfl, ?_, ?_⟩
      · rw [hr, segs_pair hp]
        simp only [place, List.append_assoc, List.cons_append, List.nil_append]
        rw [show a + ((l.take i).drop a).length + 2 = i + 2 by simp; omega, List.drop_take_self]
      · rfl
      · rfl
    | false =>
      simp (maxSteps := 1000000) (disch := omega) only [h0, h3, h4, h5, hlt, hp, len_by hx, Pair_spec hx, add_n, W_seq, W_region, W_cond, W_block, W_skip, W_label, W_exit, W_goto, W_ret, WO_cons, WO_consG, WO_nil, wantedA_eq, wantB, evOp, ev_tmp, ev_const, ev_fn, WN_some, WN_none, updO_some, updO_none, upd_eq,
 ↓reduceIte, Nat.reduceEqDiff, List.nil_append, List.cons_append, List.append_nil, List.map_cons, List.map_nil, env0_zero, env0_succ, env0_nil, Option.map_some, Option.map_none, seqQ_normal, seqQ_ret, seqQ_exit, seqQ_goto, blockQ_normal, blockQ_ret, blockQ_exit, blockQ_goto, condW_bool, loopQ_ret, loopQ_exit, loopQ_goto, endQ_ret, endQ_normal,
 lss_i, leq_i, gtr_i, geq_i, eql_i, neq_i, eql_8, neq_8, lss_8, leq_8, gtr_8, geq_8, eql_s, neq_s, eql_b, neq_b, not_b, by_bys, by_nils, load_cp1, beq_true, beq_false, Bool.not_eq_true', decide_eq_true_eq, decide_eq_false_iff_not, decide_true, decide_false,
 Int.toNat_natCast, Int.ofNat_lt, Int.ofNat_le, Int.natCast_inj, Bool.false_eq_true, Bool.true_eq_false, extPV, List.getElem?_cons_zero, List.getElem?_cons_succ, nilckPV, Int.reduceToNat, Int.reduceLE, true_and, and_true, reduceCtorEq, or_false, false_or, or_true, Option.some.injEq, exists_eq_left', Bool.not_true, Bool.not_false, ne_eq, Int.reduceEq, not_true_eq_false, not_false_eq_true, Int.reduceLT, UInt8.reduceLT, UInt8.reduceLE, UInt8.reduceToNat]
      refine loopQ_intro (m := l.length - (i + 1)) (by omega) ?_
      rw [hI]
      exact ⟨i + 1, a, out, v, rfl, by omega, by omega, by omega, by rw [hr, segs_step hp hlt, take_drop_snoc hai hlt], hg, hown, hnil, h0, h3, h4, rfl⟩
  · obtain rfl : i = l.length := by omega
    rw [segs_end (Nat.le_refl _), List.take_length] at hr
    by_cases hal : a < l.length
    · have hmid := dropB_by (i := a) hx
      have hxs : ∃ t, x = .bys t l := by
        rcases by_cases' hx with ⟨rfl, rfl⟩ | h
        · simp at hal
        · exact h
      obtain ⟨t, rfl⟩ := hxs
      have happ := appV_own (u := lnV (a, l.drop a, false)) (t := .own s.toks.length) hown.tok1 (by simp [room]; omega)
      obtain ⟨hg2, hown2⟩ := Own.app (ys := out.map lnV ++ [lnV (a, l.drop a, false)]) hg.tok1 hown.tok1
      have hlit : ∀ z, litFill 3 (List.replicate 1 z) [(0, .agg [.int .i64 (a : Int), (PV.bys t l).dropB a, .bool false])] = some [lnV (a, l.drop a, false)] := fun z => lit1 rfl rfl
      simp (maxSteps := 1000000) (disch := omega) only [h0, h3, h4, h5, hal, hlt, len_by hx, slc_lo hx, build3 Leaf_int (Leaf_by hmid) Leaf_bool, hlit, freshT_eq, happ, W_seq, W_region, W_cond, W_block, W_skip, W_label, W_exit, W_goto, W_ret, WO_cons, WO_consG, WO_nil, wantedA_eq, wantB, evOp, ev_tmp, ev_const, ev_fn, WN_some, WN_none, updO_some, updO_none, upd_eq,
 ↓reduceIte, Nat.reduceEqDiff, List.nil_append, List.cons_append, List.append_nil, List.map_cons, List.map_nil, env0_zero, env0_succ, env0_nil, Option.map_some, Option.map_none, seqQ_normal, seqQ_ret, seqQ_exit, seqQ_goto, blockQ_normal, blockQ_ret, blockQ_exit, blockQ_goto, condW_bool, loopQ_ret, loopQ_exit, loopQ_goto, endQ_ret, endQ_normal,
 lss_i, leq_i, gtr_i, geq_i, eql_i, neq_i, eql_8, neq_8, lss_8, leq_8, gtr_8, geq_8, eql_s, neq_s, eql_b, neq_b, not_b, by_bys, by_nils, load_cp1, beq_true, beq_false, Bool.not_eq_true', decide_eq_true_eq, decide_eq_false_iff_not, decide_true, decide_false,
 Int.toNat_natCast, Int.ofNat_lt, Int.ofNat_le, Int.natCast_inj, Bool.false_eq_true, Bool.true_eq_false, extPV, List.getElem?_cons_zero, List.getElem?_cons_succ, nilckPV, Int.reduceToNat, Int.reduceLE, true_and, and_true, reduceCtorEq, or_false, false_or, or_true, Option.some.injEq, exists_eq_left', Bool.not_true, Bool.not_false, ne_eq, Int.reduceEq, not_true_eq_false, not_false_eq_true, Int.reduceLT, UInt8.reduceLT, UInt8.reduceLE, UInt8.reduceToNat]
      have hne : l.drop a ≠ [] := fun h => by
        have := congrArg List.length h
        simp at this; omega
      rw [if_neg hne] at hr
      simp only [place] at hr
      rw [hr, List.map_append]
      exact ⟨_, rfl, leave_own hg2 hown2 (fun hm => by simp at hm)⟩
    · simp (maxSteps := 1000000) (disch := omega) only [h0, h3, h4, h5, hal, hlt, len_by hx, W_seq, W_region, W_cond, W_block, W_skip, W_label, W_exit, W_goto, W_ret, WO_cons, WO_consG, WO_nil, wantedA_eq, wantB, evOp, ev_tmp, ev_const, ev_fn, WN_some, WN_none, updO_some, updO_none, upd_eq,
 ↓reduceIte, Nat.reduceEqDiff, List.nil_append, List.cons_append, List.append_nil, List.map_cons, List.map_nil, env0_zero, env0_succ, env0_nil, Option.map_some, Option.map_none, seqQ_normal, seqQ_ret, seqQ_exit, seqQ_goto, blockQ_normal, blockQ_ret, blockQ_exit, blockQ_goto, condW_bool, loopQ_ret, loopQ_exit, loopQ_goto, endQ_ret, endQ_normal,
 lss_i, leq_i, gtr_i, geq_i, eql_i, neq_i, eql_8, neq_8, lss_8, leq_8, gtr_8, geq_8, eql_s, neq_s, eql_b, neq_b, not_b, by_bys, by_nils, load_cp1, beq_true, beq_false, Bool.not_eq_true', decide_eq_true_eq, decide_eq_false_iff_not, decide_true, decide_false,
 Int.toNat_natCast, Int.ofNat_lt, Int.ofNat_le, Int.natCast_inj, Bool.false_eq_true, Bool.true_eq_false, extPV, List.getElem?_cons_zero, List.getElem?_cons_succ, nilckPV, Int.reduceToNat, Int.reduceLE, true_and, and_true, reduceCtorEq, or_false, false_or, or_true, Option.some.injEq, exists_eq_left', Bool.not_true, Bool.not_false, ne_eq, Int.reduceEq, not_true_eq_false, not_false_eq_true, Int.reduceLT, UInt8.reduceLT, UInt8.reduceLE, UInt8.reduceToNat]
      rw [List.drop_of_length_le (by omega)] at hr
      simp only [if_true, place, List.append_nil] at hr
      rw [hr]
      exact ⟨v, by rcases hown with ⟨rfl, _⟩ | ⟨i, rfl, _⟩ <;> rfl, leave_own hg hown hnil⟩
end Go.Ab

/-
  The program's lines: an iterator.
-/
namespace Go.Ab
set_option linter.unusedVariables false
set_option linter.unusedSimpArgs false
variable {st : St} {e : Env}

theorem segs_index : ∀ (m acc : List UInt8), (Lib.index m [13, 10] = -1 ∧ segs m acc = if acc ++ m = [] then [] else [(acc ++ m, false)]) ∨
    (∃ n : Nat, Lib.index m [13, 10] = n ∧ n + 2 ≤ m.length ∧ segs m acc = (acc ++ m.take n, true) :: segs (m.drop (n + 2)) []) := by
  intro m
  induction m with
  | nil => intro acc; left; simp [Lib.index, segs]
  | cons c m ih =>
    intro acc
    cases m with
    | nil =>
      left
      simp [Lib.index, segs, List.isPrefixOf]
    | cons d r =>
      by_cases h : c = 13 ∧ d = 10
      · right
        obtain ⟨rfl, rfl⟩ := h
        exact ⟨0, by simp [Lib.index, List.isPrefixOf], by simp, by simp [segs]⟩
      · have hp : ([13, 10] : List UInt8).isPrefixOf (c :: d :: r) = false := by
          simp only [List.isPrefixOf, Bool.and_true]
          rw [Bool.eq_false_iff]
          intro hh
          simp only [Bool.and_eq_true, beq_iff_eq] at hh
          exact h ⟨hh.1.symm, hh.2.symm⟩
        have hi : Lib.index (c :: d :: r) [13, 10] = if Lib.index (d :: r) [13, 10] == -1 then -1 else Lib.index (d :: r) [13, 10] + 1 := by
          rw [Lib.index, hp]; simp
        have hs : segs (c :: d :: r) acc = segs (d :: r) (acc ++ [c]) := by simp only [segs]; rw [if_neg h]
        rcases ih (acc ++ [c]) with ⟨h1, h2⟩ | ⟨n, h1, h2, h3⟩
        · left
          refine ⟨by rw [hi, h1]; rfl, ?_⟩
          rw [hs, h2]; simp
        · right
          refine ⟨n + 1, ?_, by simp at h2 ⊢; omega, ?_⟩
          · rw [hi, h1]
            rw [if_neg (by simp <;> omega)]; rfl
          · rw [hs, h3]; simp

/-- What is yielded of a line: its end too. -/
def full (q : Nat × List UInt8 × Bool) : List UInt8 := q.2.1 ++ (if q.2.2 then [13, 10] else [])

theorem segs_take {m : List UInt8} {n : Nat} (h : Lib.index m [13, 10] = n) : m.take (n + 2) = m.take n ++ [13, 10] := by
  induction m generalizing n with
  | nil => simp [Lib.index] at h
  | cons c m ih =>
    rw [Lib.index] at h
    split at h
    · rename_i hp
      obtain rfl : n = 0 := by omega
      match m, hp with
      | [], hp => simp [List.isPrefixOf] at hp
      | d :: r, hp =>
        simp [List.isPrefixOf] at hp
        obtain ⟨rfl, rfl⟩ := hp
        simp
    · split at h
      · omega
      · obtain ⟨k, rfl⟩ : ∃ k, n = k + 1 := ⟨n - 1, by rename_i h1 h2; have := Lib.index_ge m [13, 10]; simp at h2; omega⟩
        have := ih (n := k) (by omega)
        rw [show k + 1 + 2 = (k + 2) + 1 by omega, List.take_succ_cons, this, List.take_succ_cons]; rfl

theorem dlines_spec {x : PV} {l : List UInt8} (hx : x.by = some l) : call prog (.fn 18 []) [x] st = some (.fn 27 [.ptr st.boxes.length 0], { boxes := st.boxes ++ [[x]], toks := st.toks, loops := st.loops, low := min st.low st.boxes.length }) := by
  refine call_of_W prog_18 ?_
  unfold F_dots_lines; dsimp only
  have hc := Leaf_by hx
  have hb : (x.inB st.boxes.length = true ∧ x.cells.all leafOk = true) := ⟨by_inB hx, by rw [hc.1]; simp [hc.2]⟩
  simp (maxSteps := 1000000) (disch := omega) only [by_inB hx, and_self, allocPV, hc.1, hc.2, capOk, List.all_cons, List.all_nil, Bool.and_true, W_seq, W_region, W_cond, W_block, W_skip, W_label, W_exit, W_goto, W_ret, WO_cons, WO_consG, WO_nil, wantedA_eq, wantB, evOp, ev_tmp, ev_const, ev_fn, WN_some, WN_none, updO_some, updO_none, upd_eq,
 ↓reduceIte, Nat.reduceEqDiff, List.nil_append, List.cons_append, List.append_nil, List.map_cons, List.map_nil, env0_zero, env0_succ, env0_nil, Option.map_some, Option.map_none, seqQ_normal, seqQ_ret, seqQ_exit, seqQ_goto, blockQ_normal, blockQ_ret, blockQ_exit, blockQ_goto, condW_bool, loopQ_ret, loopQ_exit, loopQ_goto, endQ_ret, endQ_normal,
 lss_i, leq_i, gtr_i, geq_i, eql_i, neq_i, eql_8, neq_8, lss_8, leq_8, gtr_8, geq_8, eql_s, neq_s, eql_b, neq_b, not_b, by_bys, by_nils, load_cp1, beq_true, beq_false, Bool.not_eq_true', decide_eq_true_eq, decide_eq_false_iff_not, decide_true, decide_false,
 Int.toNat_natCast, Int.ofNat_lt, Int.ofNat_le, Int.natCast_inj, Bool.false_eq_true, Bool.true_eq_false, extPV, List.getElem?_cons_zero, List.getElem?_cons_succ, nilckPV, Int.reduceToNat, Int.reduceLE, true_and, and_true, reduceCtorEq, or_false, false_or, or_true, Option.some.injEq, exists_eq_left', Bool.not_true, Bool.not_false, ne_eq, Int.reduceEq, not_true_eq_false, not_false_eq_true, Int.reduceLT, UInt8.reduceLT, UInt8.reduceLE, UInt8.reduceToNat]
  exact ⟨.fn 27 [.ptr st.boxes.length 0], rfl, by simp [leave, PV.inB, PV.inB.inBAll]⟩

/-- **The iterator**: what holds ahead of all lines, and is handed on by each yield, holds at the end. -/
theorem lines_iter {x : PV} {l : List UInt8} (hx : x.by = some l) (hl : l.length ≤ 1000000) {b k N : Nat} (hN : x.tokLt N = true) {P : List (Nat × List UInt8 × Bool) → St → Prop} {D : St → Prop}
    (hbox : ∀ r s, P r s → s.boxes[b]? = some [x]) (htok : ∀ r s, P r s → P r s.tok1) (hend : ∀ s, P [] s → D s)
    (hY : ∀ q r s v, P (q :: r) s → v.by = some (full q) → v.tokLt N = true → (∃ s', call prog (.yld k) [.int .i64 (q.1 : Int), v] s = some (.bool true, s') ∧ P r s') ∨ (∃ s', call prog (.yld k) [.int .i64 (q.1 : Int), v] s = some (.bool false, s') ∧ D s'))
    (h0 : P (refLines l) { st with low := st.boxes.length }) : ∃ s1, D s1 ∧ call prog (.fn 27 [.ptr b 0]) [.yld k] st = some (leave st s1 (.tup [])) := by
  have key : W prog F_dots_lines_c1.body (env0 ([.yld k] ++ [.ptr b 0])) { st with low := st.boxes.length } (fun xx e1 s1 => (xx = .normal ∨ xx = .ret) ∧ D s1) := by
    obtain ⟨QQ, hQQ⟩ : ∃ QQ : Ex → Env → St → Prop, QQ = fun xx e1 s1 => (xx = .normal ∨ xx = .ret) ∧ D s1 := ⟨_, rfl⟩
    rw [← hQQ]
    unfold F_dots_lines_c1; dsimp only
    simp (maxSteps := 1000000) (disch := omega) only [W_seq, W_region, W_cond, W_block, W_skip, W_label, W_exit, W_goto, W_ret, WO_cons, WO_consG, WO_nil, wantedA_eq, wantB, evOp, ev_tmp, ev_const, ev_fn, WN_some, WN_none, updO_some, updO_none, upd_eq,
 ↓reduceIte, Nat.reduceEqDiff, List.nil_append, List.cons_append, List.append_nil, List.map_cons, List.map_nil, env0_zero, env0_succ, env0_nil, Option.map_some, Option.map_none, seqQ_normal, seqQ_ret, seqQ_exit, seqQ_goto, blockQ_normal, blockQ_ret, blockQ_exit, blockQ_goto, condW_bool, loopQ_ret, loopQ_exit, loopQ_goto, endQ_ret, endQ_normal,
 lss_i, leq_i, gtr_i, geq_i, eql_i, neq_i, eql_8, neq_8, lss_8, leq_8, gtr_8, geq_8, eql_s, neq_s, eql_b, neq_b, not_b, by_bys, by_nils, load_cp1, beq_true, beq_false, Bool.not_eq_true', decide_eq_true_eq, decide_eq_false_iff_not, decide_true, decide_false,
 Int.toNat_natCast, Int.ofNat_lt, Int.ofNat_le, Int.natCast_inj, Bool.false_eq_true, Bool.true_eq_false, extPV, List.getElem?_cons_zero, List.getElem?_cons_succ, nilckPV, Int.reduceToNat, Int.reduceLE, true_and, and_true, reduceCtorEq, or_false, false_or, or_true, Option.some.injEq, exists_eq_left', Bool.not_true, Bool.not_false, ne_eq, Int.reduceEq, not_true_eq_false, not_false_eq_true, Int.reduceLT, UInt8.reduceLT, UInt8.reduceLE, UInt8.reduceToNat]
    obtain ⟨I, hI⟩ : ∃ I : Nat → Env → St → Prop, I = fun n e s => ∃ (a : Nat), n = l.length - a ∧ a ≤ l.length ∧ P (place a (segs (l.drop a) [])) s ∧ e 0 = .yld k ∧ e 1 = .ptr b 0 ∧ e 3 = .int .i64 (a : Int) := ⟨_, rfl⟩
    refine W_loop I ?_ (n := l.length) (by rw [hI]; exact ⟨0, rfl, by omega, h0, rfl, rfl, rfl⟩)
    intro n e s h
    rw [hI] at h
    obtain ⟨a, rfl, ha, hP, e0, e1, e3⟩ := h
    have hb := hbox _ _ hP
    have hld : loadPV s false 1 (.ptr b 0) = some x := by simp [loadPV, hb, readCells]
    by_cases hlt : a < l.length
    · have hd := dropB_by (i := a) hx
      have hlit : lit8Fill (List.replicate 2 0) [(0, .b8 13), (1, .b8 10)] = some [13, 10] := rfl
      have hP1 := htok _ _ hP
      have hb1 := hbox _ _ hP1
      have hld1 : loadPV s.tok1 false 1 (.ptr b 0) = some x := by simp [loadPV, hb1, readCells]
      have htk : s.tok1.toks[s.toks.length]? = some true := by simp [St.tok1]
      have hidx : call prog (.fn 32 []) [x.dropB a, .bys (.own s.toks.length) [13, 10]] s.tok1 = some (.int .i64 (Lib.index (l.drop a) [13, 10]), s.tok1) := by
        rw [call_prim prog_32]
        simp only [List.append_nil, pBytesIndex, hd, by_bys]
        rw [if_pos ⟨by simp; omega, by simp⟩]; rfl
      rcases segs_index (l.drop a) [] with ⟨i1, i2⟩ | ⟨n, i1, i2, i3⟩
      · have hne : ([] : List UInt8) ++ l.drop a ≠ [] := fun h => by
          have := congrArg List.length h
          simp at this; omega
        rw [if_neg hne] at i2
        rw [i2] at hP1
        simp only [place, List.nil_append] at hP1
        simp (maxSteps := 1000000) (disch := omega) only [e0, e1, e3, hld, len_by hx, hlt, slc_lo hx, hlit, freshT_eq, htk, hidx, hld1, i1, Int.reduceNeg, Int.reduceLT, W_seq, W_region, W_cond, W_block, W_skip, W_label, W_exit, W_goto, W_ret, WO_cons, WO_consG, WO_nil, wantedA_eq, wantB, evOp, ev_tmp, ev_const, ev_fn, WN_some, WN_none, updO_some, updO_none, upd_eq,
 ↓reduceIte, Nat.reduceEqDiff, List.nil_append, List.cons_append, List.append_nil, List.map_cons, List.map_nil, env0_zero, env0_succ, env0_nil, Option.map_some, Option.map_none, seqQ_normal, seqQ_ret, seqQ_exit, seqQ_goto, blockQ_normal, blockQ_ret, blockQ_exit, blockQ_goto, condW_bool, loopQ_ret, loopQ_exit, loopQ_goto, endQ_ret, endQ_normal,
 lss_i, leq_i, gtr_i, geq_i, eql_i, neq_i, eql_8, neq_8, lss_8, leq_8, gtr_8, geq_8, eql_s, neq_s, eql_b, neq_b, not_b, by_bys, by_nils, load_cp1, beq_true, beq_false, Bool.not_eq_true', decide_eq_true_eq, decide_eq_false_iff_not, decide_true, decide_false,
 Int.toNat_natCast, Int.ofNat_lt, Int.ofNat_le, Int.natCast_inj, Bool.false_eq_true, Bool.true_eq_false, extPV, List.getElem?_cons_zero, List.getElem?_cons_succ, nilckPV, Int.reduceToNat, Int.reduceLE, true_and, and_true, reduceCtorEq, or_false, false_or, or_true, Option.some.injEq, exists_eq_left', Bool.not_true, Bool.not_false, ne_eq, Int.reduceEq, not_true_eq_false, not_false_eq_true, Int.reduceLT, UInt8.reduceLT, UInt8.reduceLE, UInt8.reduceToNat]
        rcases hY (a, l.drop a, false) [] s.tok1 (x.dropB a) hP1 (by simpa [full] using hd) (dropB_tok hN) with ⟨s', c1, c2⟩ | ⟨s', c1, c2⟩
        · simp (maxSteps := 1000000) (disch := omega) only [c1, W_seq, W_region, W_cond, W_block, W_skip, W_label, W_exit, W_goto, W_ret, WO_cons, WO_consG, WO_nil, wantedA_eq, wantB, evOp, ev_tmp, ev_const, ev_fn, WN_some, WN_none, updO_some, updO_none, upd_eq,
 ↓reduceIte, Nat.reduceEqDiff, List.nil_append, List.cons_append, List.append_nil, List.map_cons, List.map_nil, env0_zero, env0_succ, env0_nil, Option.map_some, Option.map_none, seqQ_normal, seqQ_ret, seqQ_exit, seqQ_goto, blockQ_normal, blockQ_ret, blockQ_exit, blockQ_goto, condW_bool, loopQ_ret, loopQ_exit, loopQ_goto, endQ_ret, endQ_normal,
 lss_i, leq_i, gtr_i, geq_i, eql_i, neq_i, eql_8, neq_8, lss_8, leq_8, gtr_8, geq_8, eql_s, neq_s, eql_b, neq_b, not_b, by_bys, by_nils, load_cp1, beq_true, beq_false, Bool.not_eq_true', decide_eq_true_eq, decide_eq_false_iff_not, decide_true, decide_false,
 Int.toNat_natCast, Int.ofNat_lt, Int.ofNat_le, Int.natCast_inj, Bool.false_eq_true, Bool.true_eq_false, extPV, List.getElem?_cons_zero, List.getElem?_cons_succ, nilckPV, Int.reduceToNat, Int.reduceLE, true_and, and_true, reduceCtorEq, or_false, false_or, or_true, Option.some.injEq, exists_eq_left', Bool.not_true, Bool.not_false, ne_eq, Int.reduceEq, not_true_eq_false, not_false_eq_true, Int.reduceLT, UInt8.reduceLT, UInt8.reduceLE, UInt8.reduceToNat]
          rw [hQQ]; exact ⟨.inr rfl, hend _ c2⟩
        · simp (maxSteps := 1000000) (disch := omega) only [c1, W_seq, W_region, W_cond, W_block, W_skip, W_label, W_exit, W_goto, W_ret, WO_cons, WO_consG, WO_nil, wantedA_eq, wantB, evOp, ev_tmp, ev_const, ev_fn, WN_some, WN_none, updO_some, updO_none, upd_eq,
 ↓reduceIte, Nat.reduceEqDiff, List.nil_append, List.cons_append, List.append_nil, List.map_cons, List.map_nil, env0_zero, env0_succ, env0_nil, Option.map_some, Option.map_none, seqQ_normal, seqQ_ret, seqQ_exit, seqQ_goto, blockQ_normal, blockQ_ret, blockQ_exit, blockQ_goto, condW_bool, loopQ_ret, loopQ_exit, loopQ_goto, endQ_ret, endQ_normal,
 lss_i, leq_i, gtr_i, geq_i, eql_i, neq_i, eql_8, neq_8, lss_8, leq_8, gtr_8, geq_8, eql_s, neq_s, eql_b, neq_b, not_b, by_bys, by_nils, load_cp1, beq_true, beq_false, Bool.not_eq_true', decide_eq_true_eq, decide_eq_false_iff_not, decide_true, decide_false,
 Int.toNat_natCast, Int.ofNat_lt, Int.ofNat_le, Int.natCast_inj, Bool.false_eq_true, Bool.true_eq_false, extPV, List.getElem?_cons_zero, List.getElem?_cons_succ, nilckPV, Int.reduceToNat, Int.reduceLE, true_and, and_true, reduceCtorEq, or_false, false_or, or_true, Option.some.injEq, exists_eq_left', Bool.not_true, Bool.not_false, ne_eq, Int.reduceEq, not_true_eq_false, not_false_eq_true, Int.reduceLT, UInt8.reduceLT, UInt8.reduceLE, UInt8.reduceToNat]
          rw [hQQ]; exact ⟨.inr rfl, c2⟩
      · simp only [List.length_drop] at i2
        have hm := midB_by (i := a) (j := a + n + 2) hx
        have hfull : (l.take (a + n + 2)).drop a = full (a, (l.drop a).take n, true) := by
          simp only [full, if_true]
          rw [List.drop_take, show a + n + 2 - a = n + 2 by omega, segs_take i1]
        rw [i3] at hP1
        simp only [place, List.nil_append] at hP1
        have hlen : ((l.drop a).take n).length = n := by simp; omega
        rw [hlen, List.drop_drop, show a + (n + 2) = a + n + 2 by omega] at hP1
        have hn0 : ¬ ((n : Int) < 0) := by omega
        simp (maxSteps := 1000000) (disch := omega) only [e0, e1, e3, hld, len_by hx, hlt, slc_lo hx, hlit, freshT_eq, htk, hidx, hld1, i1, hn0, add_n, slc_lohi hx, W_seq, W_region, W_cond, W_block, W_skip, W_label, W_exit, W_goto, W_ret, WO_cons, WO_consG, WO_nil, wantedA_eq, wantB, evOp, ev_tmp, ev_const, ev_fn, WN_some, WN_none, updO_some, updO_none, upd_eq,
 ↓reduceIte, Nat.reduceEqDiff, List.nil_append, List.cons_append, List.append_nil, List.map_cons, List.map_nil, env0_zero, env0_succ, env0_nil, Option.map_some, Option.map_none, seqQ_normal, seqQ_ret, seqQ_exit, seqQ_goto, blockQ_normal, blockQ_ret, blockQ_exit, blockQ_goto, condW_bool, loopQ_ret, loopQ_exit, loopQ_goto, endQ_ret, endQ_normal,
 lss_i, leq_i, gtr_i, geq_i, eql_i, neq_i, eql_8, neq_8, lss_8, leq_8, gtr_8, geq_8, eql_s, neq_s, eql_b, neq_b, not_b, by_bys, by_nils, load_cp1, beq_true, beq_false, Bool.not_eq_true', decide_eq_true_eq, decide_eq_false_iff_not, decide_true, decide_false,
 Int.toNat_natCast, Int.ofNat_lt, Int.ofNat_le, Int.natCast_inj, Bool.false_eq_true, Bool.true_eq_false, extPV, List.getElem?_cons_zero, List.getElem?_cons_succ, nilckPV, Int.reduceToNat, Int.reduceLE, true_and, and_true, reduceCtorEq, or_false, false_or, or_true, Option.some.injEq, exists_eq_left', Bool.not_true, Bool.not_false, ne_eq, Int.reduceEq, not_true_eq_false, not_false_eq_true, Int.reduceLT, UInt8.reduceLT, UInt8.reduceLE, UInt8.reduceToNat]
        rcases hY (a, (l.drop a).take n, true) _ s.tok1 (x.midB a (a + n + 2)) hP1 (by rw [hm, hfull]) (midB_tok hN) with ⟨s', c1, c2⟩ | ⟨s', c1, c2⟩
        · simp (maxSteps := 1000000) (disch := omega) only [c1, e3, add_n, W_seq, W_region, W_cond, W_block, W_skip, W_label, W_exit, W_goto, W_ret, WO_cons, WO_consG, WO_nil, wantedA_eq, wantB, evOp, ev_tmp, ev_const, ev_fn, WN_some, WN_none, updO_some, updO_none, upd_eq,
 ↓reduceIte, Nat.reduceEqDiff, List.nil_append, List.cons_append, List.append_nil, List.map_cons, List.map_nil, env0_zero, env0_succ, env0_nil, Option.map_some, Option.map_none, seqQ_normal, seqQ_ret, seqQ_exit, seqQ_goto, blockQ_normal, blockQ_ret, blockQ_exit, blockQ_goto, condW_bool, loopQ_ret, loopQ_exit, loopQ_goto, endQ_ret, endQ_normal,
 lss_i, leq_i, gtr_i, geq_i, eql_i, neq_i, eql_8, neq_8, lss_8, leq_8, gtr_8, geq_8, eql_s, neq_s, eql_b, neq_b, not_b, by_bys, by_nils, load_cp1, beq_true, beq_false, Bool.not_eq_true', decide_eq_true_eq, decide_eq_false_iff_not, decide_true, decide_false,
 Int.toNat_natCast, Int.ofNat_lt, Int.ofNat_le, Int.natCast_inj, Bool.false_eq_true, Bool.true_eq_false, extPV, List.getElem?_cons_zero, List.getElem?_cons_succ, nilckPV, Int.reduceToNat, Int.reduceLE, true_and, and_true, reduceCtorEq, or_false, false_or, or_true, Option.some.injEq, exists_eq_left', Bool.not_true, Bool.not_false, ne_eq, Int.reduceEq, not_true_eq_false, not_false_eq_true, Int.reduceLT, UInt8.reduceLT, UInt8.reduceLE, UInt8.reduceToNat]
          refine loopQ_intro (m := l.length - (a + (n + 2))) (by omega) ?_
          rw [hI]
          exact ⟨a + (n + 2), rfl, by omega, by rw [show a + (n + 2) = a + n + 2 by omega]; exact c2, e0, e1, rfl⟩
        · simp (maxSteps := 1000000) (disch := omega) only [c1, W_seq, W_region, W_cond, W_block, W_skip, W_label, W_exit, W_goto, W_ret, WO_cons, WO_consG, WO_nil, wantedA_eq, wantB, evOp, ev_tmp, ev_const, ev_fn, WN_some, WN_none, updO_some, updO_none, upd_eq,
 ↓reduceIte, Nat.reduceEqDiff, List.nil_append, List.cons_append, List.append_nil, List.map_cons, List.map_nil, env0_zero, env0_succ, env0_nil, Option.map_some, Option.map_none, seqQ_normal, seqQ_ret, seqQ_exit, seqQ_goto, blockQ_normal, blockQ_ret, blockQ_exit, blockQ_goto, condW_bool, loopQ_ret, loopQ_exit, loopQ_goto, endQ_ret, endQ_normal,
 lss_i, leq_i, gtr_i, geq_i, eql_i, neq_i, eql_8, neq_8, lss_8, leq_8, gtr_8, geq_8, eql_s, neq_s, eql_b, neq_b, not_b, by_bys, by_nils, load_cp1, beq_true, beq_false, Bool.not_eq_true', decide_eq_true_eq, decide_eq_false_iff_not, decide_true, decide_false,
 Int.toNat_natCast, Int.ofNat_lt, Int.ofNat_le, Int.natCast_inj, Bool.false_eq_true, Bool.true_eq_false, extPV, List.getElem?_cons_zero, List.getElem?_cons_succ, nilckPV, Int.reduceToNat, Int.reduceLE, true_and, and_true, reduceCtorEq, or_false, false_or, or_true, Option.some.injEq, exists_eq_left', Bool.not_true, Bool.not_false, ne_eq, Int.reduceEq, not_true_eq_false, not_false_eq_true, Int.reduceLT, UInt8.reduceLT, UInt8.reduceLE, UInt8.reduceToNat]
          rw [hQQ]; exact ⟨.inr rfl, c2⟩
    · simp (maxSteps := 1000000) (disch := omega) only [e0, e1, e3, hld, len_by hx, hlt, W_seq, W_region, W_cond, W_block, W_skip, W_label, W_exit, W_goto, W_ret, WO_cons, WO_consG, WO_nil, wantedA_eq, wantB, evOp, ev_tmp, ev_const, ev_fn, WN_some, WN_none, updO_some, updO_none, upd_eq,
 ↓reduceIte, Nat.reduceEqDiff, List.nil_append, List.cons_append, List.append_nil, List.map_cons, List.map_nil, env0_zero, env0_succ, env0_nil, Option.map_some, Option.map_none, seqQ_normal, seqQ_ret, seqQ_exit, seqQ_goto, blockQ_normal, blockQ_ret, blockQ_exit, blockQ_goto, condW_bool, loopQ_ret, loopQ_exit, loopQ_goto, endQ_ret, endQ_normal,
 lss_i, leq_i, gtr_i, geq_i, eql_i, neq_i, eql_8, neq_8, lss_8, leq_8, gtr_8, geq_8, eql_s, neq_s, eql_b, neq_b, not_b, by_bys, by_nils, load_cp1, beq_true, beq_false, Bool.not_eq_true', decide_eq_true_eq, decide_eq_false_iff_not, decide_true, decide_false,
 Int.toNat_natCast, Int.ofNat_lt, Int.ofNat_le, Int.natCast_inj, Bool.false_eq_true, Bool.true_eq_false, extPV, List.getElem?_cons_zero, List.getElem?_cons_succ, nilckPV, Int.reduceToNat, Int.reduceLE, true_and, and_true, reduceCtorEq, or_false, false_or, or_true, Option.some.injEq, exists_eq_left', Bool.not_true, Bool.not_false, ne_eq, Int.reduceEq, not_true_eq_false, not_false_eq_true, Int.reduceLT, UInt8.reduceLT, UInt8.reduceLE, UInt8.reduceToNat]
      obtain rfl : a = l.length := by omega
      rw [hQQ]
      refine ⟨.inl rfl, hend _ ?_⟩
      rw [List.drop_of_length_le (Nat.le_refl _)] at hP
      simpa [segs, place] using hP
  obtain ⟨⟨xx, e1, s1⟩, h1, h2, h3⟩ := key
  refine ⟨s1, h3, ?_⟩
  rw [call_fn prog_27, h1]
  have hr : resOf e1 s1 F_dots_lines_c1.results = some (.tup []) := rfl
  rcases h2 with rfl | rfl <;> simp [finish, hr]
end Go.Ab

/-
  Ranges over functions; memory that grows.
-/
namespace Go.Ab
set_option linter.unusedVariables false
set_option linter.unusedSimpArgs false
variable {A : AP} {st : St} {e : Env}

theorem W_rangeFunc {f : Opd} {ps : List Nat} {asg body : ACode} {fid : Nat} {caps : List PV} {fn : ACFn} {Q : Ex → Env → St → Prop} (hf : f.ev e = .fn fid caps) (hA : A fid = some (.code fn))
    (h : ∃ v s1 r, call A (.fn fid caps) [.yld st.loops.length] { st with loops := st.loops ++ [recOf e ps asg body] } = some (v, s1) ∧ s1.loops[st.loops.length]? = some r ∧ r.status ≠ 1 ∧ Q r.pend e { s1 with loops := s1.loops.take st.loops.length }) :
    W A (.rangeFunc f ps asg body) e st Q := by
  obtain ⟨v, s1, r, h1, h2, h3, h4⟩ := h
  refine ⟨(r.pend, e, { s1 with loops := s1.loops.take st.loops.length }), ?_, h4⟩
  rw [ex_rangeFunc hf hA, h1]
  simp only [h2, h3, if_false]

/-- What is asked where a round ends. -/
def roundQ (k : Nat) (K : Bool → St → Prop) : Ex → Env → St → Prop := fun x _ s2 => ∃ r2, s2.loops[k]? = some r2 ∧ K (decide (x = .normal)) { s2 with loops := s2.loops.set k { r2 with status := if x = .normal then 0 else 2, pend := x } }

theorem yld_of_W {k : Nat} {args : List PV} {r : LoopS} {e1 : Env} {K : Bool → St → Prop} (hr : st.loops[k]? = some r) (hs : r.status = 0) (hl : args.length = r.params.length)
    (ha : ex A r.assign (updAll r.env r.params args) st = some (.normal, e1, st))
    (hb : W A r.body e1 { st with loops := st.loops.set k { r with status := 1 } } (roundQ k K)) : ∃ b s', call A (.yld k) args st = some (.bool b, s') ∧ K b s' := by
  obtain ⟨⟨x, e2, s2⟩, h1, r2, h2, h3⟩ := hb
  refine ⟨decide (x = .normal), _, ?_, h3⟩
  rw [call_yld hr hs hl, ha]
  simp only [hr, hs, if_true]
  rw [h1]
  simp only at h2 ⊢
  rw [h2]

theorem ex_of_W {c : ACode} {E : Env} {S : St} {x : Ex} (h : W A c e st (fun x' e' s' => x' = x ∧ e' = E ∧ s' = S)) : ex A c e st = some (x, E, S) := by
  obtain ⟨⟨x', e', s'⟩, h1, rfl, rfl, rfl⟩ := h
  exact h1
theorem tok1_mk {b : List (List PV)} {t : List Bool} {l : List LoopS} {lo : Nat} : St.tok1 ⟨b, t, l, lo⟩ = ⟨b, t ++ [true], l, lo⟩ := rfl

/-! ### Lists that have grown -/
theorem get_app {α : Type} {l r : List α} {k : Nat} : (l ++ r)[l.length + k]? = r[k]? := by
  rw [List.getElem?_append_right (by omega)]; congr 1; omega
theorem get_app0 {α : Type} {l r : List α} {a : α} : (l ++ a :: r)[l.length]? = some a := by simp
theorem set_app {α : Type} {l r : List α} {k : Nat} {v : α} : (l ++ r).set (l.length + k) v = l ++ r.set k v := by
  rw [List.set_append_right _ _ (by omega)]; congr 2; omega
theorem set_app0 {α : Type} {l r : List α} {a v : α} : (l ++ a :: r).set l.length v = l ++ v :: r := by
  have := set_app (l := l) (r := a :: r) (k := 0) (v := v)
  simp only [Nat.add_zero, List.set_cons_zero] at this; exact this

theorem tokLt_mono {x : PV} {n m : Nat} (h : x.tokLt n = true) (hnm : n ≤ m) : x.tokLt m = true := by
  cases x with
  | bys t l => cases t <;> simp_all [PV.tokLt, Tok.lt]; omega
  | sl e t l => cases t <;> simp_all [PV.tokLt, Tok.lt]; omega
  | _ => rfl
/-! ### Slices of values -/
def PV.vs (esz : Nat) : PV → Option (List PV)
  | .nils => some []
  | .sl e _ xs => if e = esz then some xs else none
  | _ => none
theorem vs_cases {esz : Nat} {x : PV} {xs : List PV} (h : x.vs esz = some xs) : (x = .nils ∧ xs = []) ∨ ∃ t, x = .sl esz t xs := by
  cases x <;> simp [PV.vs] at h
  · exact .inl ⟨rfl, h⟩
  · obtain ⟨rfl, rfl⟩ := h; exact .inr ⟨_, rfl⟩
theorem len_vs {esz : Nat} {x : PV} {xs : List PV} (h : x.vs esz = some xs) : lenPV false x = some (.int .i64 (xs.length : Int)) := by
  rcases vs_cases h with ⟨rfl, rfl⟩ | ⟨t, rfl⟩ <;> rfl
theorem iaddr_vs {esz : Nat} {x : PV} {xs : List PV} {k : IntKind} {c : Int} (h : x.vs esz = some xs) (h1 : 0 ≤ c) (h2 : c.toNat < xs.length) : iaddrPV esz x (.int k c) = some (.cp (xs.getD c.toNat .undef).cells) := by
  rcases vs_cases h with ⟨rfl, rfl⟩ | ⟨t, rfl⟩
  · simp at h2
  · simp [iaddrPV, intOf, h1, show c < xs.length by omega]
theorem newSl_vs {esz : Nat} {xs : List PV} : (newSl st esz xs).vs esz = some xs := by
  unfold newSl; split
  · rename_i h; rw [h]; rfl
  · simp [PV.vs]
theorem newS_eq {b : List (List PV)} {t : List Bool} {l : List LoopS} {lo : Nat} {c : Bool} : newS ⟨b, t, l, lo⟩ c = ⟨b, t ++ (if c then [] else [true]), l, lo⟩ := by
  cases c <;> simp [newS, St.tok1]

/-- Boxes and tokens of its own are gone behind a call that hands back plain values. -/
theorem leave_gone {v : PV} {bs : List (List PV)} {ts : List Bool} (h1 : v.inB st.boxes.length = true) (h3 : keepRes st.toks.length (st.toks ++ ts) v = (v, [])) :
    leave st ⟨st.boxes ++ bs, st.toks ++ ts, st.loops, st.boxes.length⟩ v = (v, st) := by
  simp [leave, h1, h3]
theorem leave_gone0 {v : PV} {bs : List (List PV)} (h1 : v.inB st.boxes.length = true) (h3 : keepRes st.toks.length (st.toks ++ []) v = (v, [])) :
    leave st ⟨st.boxes ++ bs, st.toks, st.loops, st.boxes.length⟩ v = (v, st) := by
  have := leave_gone (bs := bs) h1 h3
  simpa using this
end Go.Ab

/-
  What is wrong with a text: the program's answer, by its lines.
-/
namespace Go.Ab
set_option linter.unusedVariables false
set_option linter.unusedSimpArgs false
variable {st : St} {e : Env}

/-- What is wrong with one line of a text of n bytes. -/
def faultOf (n : Nat) (q : Nat × List UInt8 × Bool) : Int × Int :=
  if 0 ≤ bareAt q.2.1 then ((q.1 : Int) + bareAt q.2.1, 41) else if 998 < q.2.1.length then ((q.1 : Int), 40) else if q.2.2 = false then ((n : Int), 42) else (0, 0)
/-- What is wrong with the first wrong one. -/
def rightGo (n : Nat) : List (Nat × List UInt8 × Bool) → Int × Int
  | [] => (0, 0)
  | q :: r => if (faultOf n q).2 ≠ 0 then faultOf n q else rightGo n r
def rightOf (l : List UInt8) : Int × Int := rightGo l.length (refLines l)
def fV (f : Int × Int) : PV := .agg [.int .i64 f.1, .int .i64 f.2]

/-- A line as the iterators give it: within the text; without its end, if it has none. -/
def LineOK (l : List UInt8) (q : Nat × List UInt8 × Bool) : Prop := q.1 + q.2.1.length ≤ l.length ∧ (q.2.2 = false → ¬ [13, 10] <:+ q.2.1)

theorem no_suffix {m : List UInt8} (h : Lib.index m [13, 10] = -1) : ¬ [13, 10] <:+ m := by
  rintro ⟨t, rfl⟩
  induction t with
  | nil => simp [Lib.index, List.isPrefixOf] at h
  | cons c t ih =>
    rw [List.cons_append, Lib.index] at h
    split at h
    · omega
    · split at h
      · rename_i h1
        exact ih (by simpa using h1)
      · rename_i h1
        have := Lib.index_ge (t ++ [13, 10]) [13, 10]
        simp at h1
        omega

theorem place_ok (l : List UInt8) : ∀ (n a : Nat), l.length - a = n → a ≤ l.length → ∀ q ∈ place a (segs (l.drop a) []), LineOK l q := by
  intro n
  induction n using Nat.strongRecOn with
  | _ n ih =>
    intro a hn ha q hq
    rcases segs_index (l.drop a) [] with ⟨i1, i2⟩ | ⟨m, i1, i2, i3⟩
    · rw [i2] at hq
      split at hq
      · simp [place] at hq
      · simp [place] at hq
        subst hq
        exact ⟨by simp; omega, fun _ => no_suffix i1⟩
    · rw [i3] at hq
      simp only [List.length_drop] at i2
      simp only [place, List.nil_append, List.mem_cons] at hq
      rcases hq with rfl | hq
      · exact ⟨by simp; omega, fun h => by simp at h⟩
      · have hlen : ((l.drop a).take m).length = m := by simp; omega
        rw [hlen, List.drop_drop, show a + (m + 2) = a + m + 2 by omega] at hq
        exact ih (l.length - (a + m + 2)) (by omega) (a + m + 2) rfl (by omega) q hq

theorem refLines_ok {l : List UInt8} : ∀ q ∈ refLines l, LineOK l q := fun q hq => place_ok l l.length 0 rfl (by omega) q (by simpa [refLines] using hq)

theorem full_cut {q : Nat × List UInt8 × Bool} {l : List UInt8} (h : LineOK l q) : ([13, 10] <:+ full q) ↔ q.2.2 = true := by
  obtain ⟨a, b, w⟩ := q
  cases w with
  | true => simp [full]
  | false => simp only [full]; simp; exact h.2 rfl

theorem bareAt_lt {l : List UInt8} : bareAt l < (l.length : Int) + 1 ∧ -1 ≤ bareAt l := by
  unfold bareAt
  cases h : l.findIdx? crlf with
  | none => simp; omega
  | some i =>
    rw [List.findIdx?_eq_some_iff_getElem] at h
    obtain ⟨h1, _⟩ := h
    simp; omega

theorem dRight_spec {x : PV} {l : List UInt8} (hx : x.by = some l) (hl : l.length ≤ 1000000) (hxt : x.tokLt st.toks.length = true) : call prog (.fn 5 []) [x] st = some (fV (rightOf l), st) := by
  refine call_of_W prog_5 ?_
  unfold F_dots_Right; dsimp only
  have hc := Leaf_by hx
  have hld : ∀ (a b c : List PV) (ts : List Bool) (ls : List LoopS) (lo : Nat), loadPV ⟨st.boxes ++ [[x], b, c], ts, ls, lo⟩ false 1 (.ptr st.boxes.length 0) = some x := fun a b c ts ls lo => by simp [loadPV, readCells]
  simp (maxSteps := 1000000) (disch := omega) only [by_inB hx, and_self, allocPV, hc.1, hc.2, List.all_cons, List.all_nil, Bool.and_true, List.append_assoc, List.length_append, List.length_cons, List.length_nil, Nat.zero_add, W_scope, W_seq, W_region, W_cond, W_block, W_skip, W_label, W_exit, W_goto, W_ret, WO_cons, WO_consG, WO_nil, wantedA_eq, wantB, evOp, ev_tmp, ev_const, ev_fn, WN_some, WN_none, updO_some, updO_none, upd_eq,
 ↓reduceIte, Nat.reduceEqDiff, List.nil_append, List.cons_append, List.append_nil, List.map_cons, List.map_nil, env0_zero, env0_succ, env0_nil, Option.map_some, Option.map_none, seqQ_normal, seqQ_ret, seqQ_exit, seqQ_goto, blockQ_normal, blockQ_ret, blockQ_exit, blockQ_goto, condW_bool, loopQ_ret, loopQ_exit, loopQ_goto, endQ_ret, endQ_normal,
 lss_i, leq_i, gtr_i, geq_i, eql_i, neq_i, eql_8, neq_8, lss_8, leq_8, gtr_8, geq_8, eql_s, neq_s, eql_b, neq_b, not_b, by_bys, by_nils, load_cp1, beq_true, beq_false, Bool.not_eq_true', decide_eq_true_eq, decide_eq_false_iff_not, decide_true, decide_false,
 Int.toNat_natCast, Int.ofNat_lt, Int.ofNat_le, Int.natCast_inj, Bool.false_eq_true, Bool.true_eq_false, extPV, List.getElem?_cons_zero, List.getElem?_cons_succ, nilckPV, Int.reduceToNat, Int.reduceLE, true_and, and_true, reduceCtorEq, or_false, false_or, or_true, Option.some.injEq, exists_eq_left', Bool.not_true, Bool.not_false, ne_eq, Int.reduceEq, not_true_eq_false, not_false_eq_true, Int.reduceLT, UInt8.reduceLT, UInt8.reduceLE, UInt8.reduceToNat]
  refine W_scopeAt ?_
  simp (maxSteps := 1000000) (disch := omega) only [by_inB hx, and_self, allocPV, hc.1, hc.2, List.all_cons, List.all_nil, Bool.and_true, List.append_assoc, List.length_append, List.length_cons, List.length_nil, Nat.zero_add, Nat.reduceAdd, hld [], dlines_spec hx, W_seq, W_region, W_cond, W_block, W_skip, W_label, W_exit, W_goto, W_ret, WO_cons, WO_consG, WO_nil, wantedA_eq, wantB, evOp, ev_tmp, ev_const, ev_fn, WN_some, WN_none, updO_some, updO_none, upd_eq,
 ↓reduceIte, Nat.reduceEqDiff, List.nil_append, List.cons_append, List.append_nil, List.map_cons, List.map_nil, env0_zero, env0_succ, env0_nil, Option.map_some, Option.map_none, seqQ_normal, seqQ_ret, seqQ_exit, seqQ_goto, blockQ_normal, blockQ_ret, blockQ_exit, blockQ_goto, condW_bool, loopQ_ret, loopQ_exit, loopQ_goto, endQ_ret, endQ_normal,
 lss_i, leq_i, gtr_i, geq_i, eql_i, neq_i, eql_8, neq_8, lss_8, leq_8, gtr_8, geq_8, eql_s, neq_s, eql_b, neq_b, not_b, by_bys, by_nils, load_cp1, beq_true, beq_false, Bool.not_eq_true', decide_eq_true_eq, decide_eq_false_iff_not, decide_true, decide_false,
 Int.toNat_natCast, Int.ofNat_lt, Int.ofNat_le, Int.natCast_inj, Bool.false_eq_true, Bool.true_eq_false, extPV, List.getElem?_cons_zero, List.getElem?_cons_succ, nilckPV, Int.reduceToNat, Int.reduceLE, true_and, and_true, reduceCtorEq, or_false, false_or, or_true, Option.some.injEq, exists_eq_left', Bool.not_true, Bool.not_false, ne_eq, Int.reduceEq, not_true_eq_false, not_false_eq_true, Int.reduceLT, UInt8.reduceLT, UInt8.reduceLE, UInt8.reduceToNat]
  refine W_rangeFunc (fid := 27) (caps := [.ptr (st.boxes.length + 3) 0]) rfl prog_27 ?_
  generalize hrec : recOf _ _ _ _ = rec
  have hra := congrArg LoopS.assign hrec.symm
  have hrb := congrArg LoopS.body hrec.symm
  dsimp only [recOf] at hra hrb
  have r0 : rec.status = 0 := by rw [← hrec]; rfl
  have r1 : rec.pend = .normal := by rw [← hrec]; rfl
  have r2 : rec.params = [11, 12] := by rw [← hrec]; rfl
  have r3 : rec.env 1 = .ptr st.boxes.length 0 := by rw [← hrec]; rfl
  have r4 : rec.env 3 = .ptr (st.boxes.length + 2) 0 := by rw [← hrec]; rfl
  have r5 : rec = { rec with status := 0, pend := .normal } := by rw [← hrec]; rfl
  obtain ⟨P, hP⟩ : ∃ P : List (Nat × List UInt8 × Bool) → St → Prop, P = fun r s => ∃ ts, s = ⟨st.boxes ++ [[x], [.int .i64 0, .int .i64 0], [.int .i64 0, .int .i64 0], [x]], st.toks ++ ts, st.loops ++ [rec], st.boxes.length + 4⟩ ∧ rightOf l = rightGo l.length r ∧ ∀ q ∈ r, LineOK l q := ⟨_, rfl⟩
  obtain ⟨D, hD⟩ : ∃ D : St → Prop, D = fun s => ∃ ts x', s = ⟨st.boxes ++ [[x], [.int .i64 0, .int .i64 0], [.int .i64 (rightOf l).1, .int .i64 (rightOf l).2], [x]], st.toks ++ ts, st.loops ++ [{ rec with status := if x' = .normal then 0 else 2, pend := x' }], st.boxes.length + 4⟩ ∧ (x' = .normal ∨ x' = .exit 0) := ⟨_, rfl⟩
  obtain ⟨s1, hs1, hcall⟩ := lines_iter (st := ⟨st.boxes ++ [[x], [.int .i64 0, .int .i64 0], [.int .i64 0, .int .i64 0], [x]], st.toks, st.loops ++ [rec], min st.boxes.length (st.boxes.length + 3)⟩) hx hl (b := st.boxes.length + 3) (k := st.loops.length) (N := st.toks.length) hxt (P := P) (D := D)
    (fun r s h => by rw [hP] at h; obtain ⟨ts, rfl, _⟩ := h; exact get_app)
    (fun r s h => by rw [hP] at h ⊢; obtain ⟨ts, rfl, h2⟩ := h; exact ⟨ts ++ [true], by simp [St.tok1], h2⟩)
    (fun s h => by
      rw [hP] at h; rw [hD]; obtain ⟨ts, rfl, h2, _⟩ := h
      refine ⟨ts, .normal, ?_, .inl rfl⟩
      rw [h2]; simp only [if_true, rightGo]; rw [← r5])
    (fun q r s v h hv hvt => by
      rw [hP] at h
      obtain ⟨ts, rfl, h2, h3⟩ := h
      have hq := h3 q (by simp)
      obtain ⟨K, hK⟩ : ∃ K : Bool → St → Prop, K = fun b s' => (b = true ∧ P r s') ∨ (b = false ∧ D s') := ⟨_, rfl⟩
      have hmain : ∃ b s', call prog (.yld st.loops.length) [.int .i64 (q.1 : Int), v] ⟨st.boxes ++ [[x], [.int .i64 0, .int .i64 0], [.int .i64 0, .int .i64 0], [x]], st.toks ++ ts, st.loops ++ [rec], st.boxes.length + 4⟩ = some (.bool b, s') ∧ K b s' := by
        refine yld_of_W (r := rec) (e1 := upd (upd (upd (upd rec.env 11 (.int .i64 (q.1 : Int))) 12 v) 4 (.int .i64 (q.1 : Int))) 5 v) get_app0 r0 (by rw [r2]; rfl) ?_ ?_
        · refine ex_of_W ?_
          simp (maxSteps := 1000000) (disch := omega) only [hra, r2, updAll, W_seq, W_region, W_cond, W_block, W_skip, W_label, W_exit, W_goto, W_ret, WO_cons, WO_consG, WO_nil, wantedA_eq, wantB, evOp, ev_tmp, ev_const, ev_fn, WN_some, WN_none, updO_some, updO_none, upd_eq,
 ↓reduceIte, Nat.reduceEqDiff, List.nil_append, List.cons_append, List.append_nil, List.map_cons, List.map_nil, env0_zero, env0_succ, env0_nil, Option.map_some, Option.map_none, seqQ_normal, seqQ_ret, seqQ_exit, seqQ_goto, blockQ_normal, blockQ_ret, blockQ_exit, blockQ_goto, condW_bool, loopQ_ret, loopQ_exit, loopQ_goto, endQ_ret, endQ_normal,
 lss_i, leq_i, gtr_i, geq_i, eql_i, neq_i, eql_8, neq_8, lss_8, leq_8, gtr_8, geq_8, eql_s, neq_s, eql_b, neq_b, not_b, by_bys, by_nils, load_cp1, beq_true, beq_false, Bool.not_eq_true', decide_eq_true_eq, decide_eq_false_iff_not, decide_true, decide_false,
 Int.toNat_natCast, Int.ofNat_lt, Int.ofNat_le, Int.natCast_inj, Bool.false_eq_true, Bool.true_eq_false, extPV, List.getElem?_cons_zero, List.getElem?_cons_succ, nilckPV, Int.reduceToNat, Int.reduceLE, true_and, and_true, reduceCtorEq, or_false, false_or, or_true, Option.some.injEq, exists_eq_left', Bool.not_true, Bool.not_false, ne_eq, Int.reduceEq, not_true_eq_false, not_false_eq_true, Int.reduceLT, UInt8.reduceLT, UInt8.reduceLE, UInt8.reduceToNat]
        · obtain ⟨rec1, hrec1⟩ : ∃ r, r = ({ rec with status := 1 } : LoopS) := ⟨_, rfl⟩
          simp only [set_app0]
          rw [← hrec1, hrb]
          have hwd : ∃ w, w = (if q.2.2 = true then v.takeB q.2.1.length else v) := ⟨_, rfl⟩
          obtain ⟨w, hw⟩ := hwd
          have hwb : w.by = some q.2.1 := by
            rw [hw]; split
            · rename_i h; rw [takeB_by hv]; simp [full, h]
            · rename_i h; rw [hv]; simp [full, h]
          have hfl : (full q).length ≤ 1000002 := by
            have := hq.1
            simp only [full]; split <;> simp <;> omega
          have hcs : ∀ bs ts' ls lo t, call prog (.fn 19 []) [v, .bys t [13, 10]] ⟨bs, st.toks ++ ts', ls, lo⟩ = some (.tup [w, .bool q.2.2], ⟨bs, st.toks ++ ts', ls, lo⟩) := fun bs ts' ls lo t => by
            rw [CutSuffix_spec hv by_bys (by omega) (tokLt_mono hvt (by simp))]
            by_cases h : q.2.2 = true
            · rw [if_pos ((full_cut hq).2 h), hw, if_pos h, h]
              simp [full, h]
            · rw [if_neg (fun h2 => h ((full_cut hq).1 h2)), hw, if_neg h]
              simp at h; rw [h]
          have hlit : lit8Fill (List.replicate 2 0) [(0, .b8 13), (1, .b8 10)] = some [13, 10] := rfl
          have htk : (st.toks ++ (ts ++ [true]))[st.toks.length + ts.length]? = some true := by rw [get_app]; simp
          have hst : ∀ a b ts ls lo, storePV ⟨st.boxes ++ [[x], [.int .i64 0, .int .i64 0], [.int .i64 0, .int .i64 0], [x]], ts, ls, lo⟩ 2 (.ptr (st.boxes.length + 2) 0) (.agg [.int .i64 a, .int .i64 b]) =
              some ⟨st.boxes ++ [[x], [.int .i64 0, .int .i64 0], [.int .i64 a, .int .i64 b], [x]], ts, ls, lo⟩ := fun a b ts ls lo => by
            simp [storePV, get_app, set_app, PV.cells, PV.inB, PV.inB.inBAll, setCells, hasTok, tokOf, leafOk]
          have hld2 : ∀ a b ts ls lo, loadPV ⟨st.boxes ++ [[x], [.int .i64 0, .int .i64 0], [.int .i64 a, .int .i64 b], [x]], ts, ls, lo⟩ false 1 (.ptr (st.boxes.length + 2) 1) = some (.int .i64 b) := fun a b ts ls lo => by
            simp [loadPV, get_app, readCells]
          have hld0 : ∀ a b ts ls lo, loadPV ⟨st.boxes ++ [[x], [.int .i64 0, .int .i64 0], [.int .i64 a, .int .i64 b], [x]], ts, ls, lo⟩ false 1 (.ptr st.boxes.length 0) = some x := fun a b ts ls lo => by
            simp [loadPV, readCells]
          have hb2 := bareAt_lt (l := q.2.1)
          have hq1 := hq.1
          have fin : ∀ (f : Int × Int) (xx : Ex) (e2 : Env), f = faultOf l.length q → (xx = .normal ∧ f.2 = 0 ∧ f = (0, 0) ∨ xx = .exit 0 ∧ f.2 ≠ 0) →
              roundQ st.loops.length K xx e2 ⟨st.boxes ++ [[x], [.int .i64 0, .int .i64 0], [.int .i64 f.1, .int .i64 f.2], [x]], st.toks ++ (ts ++ [true]), st.loops ++ [rec1], st.boxes.length + 4⟩ := by
            intro f xx e2 hf hxx
            subst hrec1
            refine ⟨_, get_app0, ?_⟩
            rw [hK]
            rcases hxx with ⟨rfl, hf2, rfl⟩ | ⟨rfl, hf2⟩
            · left
              refine ⟨rfl, ?_⟩
              rw [hP]
              refine ⟨ts ++ [true], ?_, ?_, fun q' hq' => h3 q' (by simp [hq'])⟩
              · simp only [set_app0, if_true]; rw [← r5]
              · rw [h2]; simp only [rightGo]; rw [← hf]; simp
            · right
              refine ⟨rfl, ?_⟩
              rw [hD]
              refine ⟨ts ++ [true], .exit 0, ?_, .inr rfl⟩
              have : rightOf l = f := by rw [h2]; simp only [rightGo]; rw [← hf, if_pos hf2]
              rw [this]
              simp only [set_app0]
          by_cases c1 : 0 ≤ bareAt q.2.1
          · simp (maxSteps := 1000000) (disch := omega) only [r3, r4, hlit, freshT_eq, tok1_mk, List.append_assoc, List.length_append, htk, hcs, dbare_spec hwb, c1, add_i, build2 Leaf_int Leaf_int, hst, faddrPV, Nat.zero_add, hld2, W_seq, W_region, W_cond, W_block, W_skip, W_label, W_exit, W_goto, W_ret, WO_cons, WO_consG, WO_nil, wantedA_eq, wantB, evOp, ev_tmp, ev_const, ev_fn, WN_some, WN_none, updO_some, updO_none, upd_eq,
 ↓reduceIte, Nat.reduceEqDiff, List.nil_append, List.cons_append, List.append_nil, List.map_cons, List.map_nil, env0_zero, env0_succ, env0_nil, Option.map_some, Option.map_none, seqQ_normal, seqQ_ret, seqQ_exit, seqQ_goto, blockQ_normal, blockQ_ret, blockQ_exit, blockQ_goto, condW_bool, loopQ_ret, loopQ_exit, loopQ_goto, endQ_ret, endQ_normal,
 lss_i, leq_i, gtr_i, geq_i, eql_i, neq_i, eql_8, neq_8, lss_8, leq_8, gtr_8, geq_8, eql_s, neq_s, eql_b, neq_b, not_b, by_bys, by_nils, load_cp1, beq_true, beq_false, Bool.not_eq_true', decide_eq_true_eq, decide_eq_false_iff_not, decide_true, decide_false,
 Int.toNat_natCast, Int.ofNat_lt, Int.ofNat_le, Int.natCast_inj, Bool.false_eq_true, Bool.true_eq_false, extPV, List.getElem?_cons_zero, List.getElem?_cons_succ, nilckPV, Int.reduceToNat, Int.reduceLE, true_and, and_true, reduceCtorEq, or_false, false_or, or_true, Option.some.injEq, exists_eq_left', Bool.not_true, Bool.not_false, ne_eq, Int.reduceEq, not_true_eq_false, not_false_eq_true, Int.reduceLT, UInt8.reduceLT, UInt8.reduceLE, UInt8.reduceToNat]
            exact fin ((q.1 : Int) + bareAt q.2.1, 41) _ _ (by simp only [faultOf, c1, if_true]) (.inr ⟨rfl, by simp⟩)
          · by_cases c2 : 998 < q.2.1.length
            · have c2' : (998 : Int) < (q.2.1.length : Int) := by omega
              simp (maxSteps := 1000000) (disch := omega) only [r3, r4, hlit, freshT_eq, tok1_mk, List.append_assoc, List.length_append, htk, hcs, dbare_spec hwb, c1, c2', len_by hwb, add_i, build2 Leaf_int Leaf_int, hst, faddrPV, Nat.zero_add, hld2, W_seq, W_region, W_cond, W_block, W_skip, W_label, W_exit, W_goto, W_ret, WO_cons, WO_consG, WO_nil, wantedA_eq, wantB, evOp, ev_tmp, ev_const, ev_fn, WN_some, WN_none, updO_some, updO_none, upd_eq,
 ↓reduceIte, Nat.reduceEqDiff, List.nil_append, List.cons_append, List.append_nil, List.map_cons, List.map_nil, env0_zero, env0_succ, env0_nil, Option.map_some, Option.map_none, seqQ_normal, seqQ_ret, seqQ_exit, seqQ_goto, blockQ_normal, blockQ_ret, blockQ_exit, blockQ_goto, condW_bool, loopQ_ret, loopQ_exit, loopQ_goto, endQ_ret, endQ_normal,
 lss_i, leq_i, gtr_i, geq_i, eql_i, neq_i, eql_8, neq_8, lss_8, leq_8, gtr_8, geq_8, eql_s, neq_s, eql_b, neq_b, not_b, by_bys, by_nils, load_cp1, beq_true, beq_false, Bool.not_eq_true', decide_eq_true_eq, decide_eq_false_iff_not, decide_true, decide_false,
 Int.toNat_natCast, Int.ofNat_lt, Int.ofNat_le, Int.natCast_inj, Bool.false_eq_true, Bool.true_eq_false, extPV, List.getElem?_cons_zero, List.getElem?_cons_succ, nilckPV, Int.reduceToNat, Int.reduceLE, true_and, and_true, reduceCtorEq, or_false, false_or, or_true, Option.some.injEq, exists_eq_left', Bool.not_true, Bool.not_false, ne_eq, Int.reduceEq, not_true_eq_false, not_false_eq_true, Int.reduceLT, UInt8.reduceLT, UInt8.reduceLE, UInt8.reduceToNat]
              exact fin ((q.1 : Int), 40) _ _ (by simp only [faultOf, c1, c2, if_true, if_false]) (.inr ⟨rfl, by simp⟩)
            · have c2' : ¬ (998 : Int) < (q.2.1.length : Int) := by omega
              cases c3 : q.2.2 with
              | false =>
                rw [c3] at hcs
                simp (maxSteps := 1000000) (disch := omega) only [r3, r4, hlit, freshT_eq, tok1_mk, List.append_assoc, List.length_append, htk, hcs, dbare_spec hwb, c1, c2', len_by hwb, hld0, len_by hx, add_i, build2 Leaf_int Leaf_int, hst, faddrPV, Nat.zero_add, hld2, W_seq, W_region, W_cond, W_block, W_skip, W_label, W_exit, W_goto, W_ret, WO_cons, WO_consG, WO_nil, wantedA_eq, wantB, evOp, ev_tmp, ev_const, ev_fn, WN_some, WN_none, updO_some, updO_none, upd_eq,
 ↓reduceIte, Nat.reduceEqDiff, List.nil_append, List.cons_append, List.append_nil, List.map_cons, List.map_nil, env0_zero, env0_succ, env0_nil, Option.map_some, Option.map_none, seqQ_normal, seqQ_ret, seqQ_exit, seqQ_goto, blockQ_normal, blockQ_ret, blockQ_exit, blockQ_goto, condW_bool, loopQ_ret, loopQ_exit, loopQ_goto, endQ_ret, endQ_normal,
 lss_i, leq_i, gtr_i, geq_i, eql_i, neq_i, eql_8, neq_8, lss_8, leq_8, gtr_8, geq_8, eql_s, neq_s, eql_b, neq_b, not_b, by_bys, by_nils, load_cp1, beq_true, beq_false, Bool.not_eq_true', decide_eq_true_eq, decide_eq_false_iff_not, decide_true, decide_false,
 Int.toNat_natCast, Int.ofNat_lt, Int.ofNat_le, Int.natCast_inj, Bool.false_eq_true, Bool.true_eq_false, extPV, List.getElem?_cons_zero, List.getElem?_cons_succ, nilckPV, Int.reduceToNat, Int.reduceLE, true_and, and_true, reduceCtorEq, or_false, false_or, or_true, Option.some.injEq, exists_eq_left', Bool.not_true, Bool.not_false, ne_eq, Int.reduceEq, not_true_eq_false, not_false_eq_true, Int.reduceLT, UInt8.reduceLT, UInt8.reduceLE, UInt8.reduceToNat]
                exact fin ((l.length : Int), 42) _ _ (by simp only [faultOf, c1, c2, c3, if_true, if_false]) (.inr ⟨rfl, by simp⟩)
              | true =>
                rw [c3] at hcs
                simp (maxSteps := 1000000) (disch := omega) only [r3, r4, hlit, freshT_eq, tok1_mk, List.append_assoc, List.length_append, htk, hcs, dbare_spec hwb, c1, c2', len_by hwb, hld0, len_by hx, add_i, build2 Leaf_int Leaf_int, hst, faddrPV, Nat.zero_add, hld2, W_seq, W_region, W_cond, W_block, W_skip, W_label, W_exit, W_goto, W_ret, WO_cons, WO_consG, WO_nil, wantedA_eq, wantB, evOp, ev_tmp, ev_const, ev_fn, WN_some, WN_none, updO_some, updO_none, upd_eq,
 ↓reduceIte, Nat.reduceEqDiff, List.nil_append, List.cons_append, List.append_nil, List.map_cons, List.map_nil, env0_zero, env0_succ, env0_nil, Option.map_some, Option.map_none, seqQ_normal, seqQ_ret, seqQ_exit, seqQ_goto, blockQ_normal, blockQ_ret, blockQ_exit, blockQ_goto, condW_bool, loopQ_ret, loopQ_exit, loopQ_goto, endQ_ret, endQ_normal,
 lss_i, leq_i, gtr_i, geq_i, eql_i, neq_i, eql_8, neq_8, lss_8, leq_8, gtr_8, geq_8, eql_s, neq_s, eql_b, neq_b, not_b, by_bys, by_nils, load_cp1, beq_true, beq_false, Bool.not_eq_true', decide_eq_true_eq, decide_eq_false_iff_not, decide_true, decide_false,
 Int.toNat_natCast, Int.ofNat_lt, Int.ofNat_le, Int.natCast_inj, Bool.false_eq_true, Bool.true_eq_false, extPV, List.getElem?_cons_zero, List.getElem?_cons_succ, nilckPV, Int.reduceToNat, Int.reduceLE, true_and, and_true, reduceCtorEq, or_false, false_or, or_true, Option.some.injEq, exists_eq_left', Bool.not_true, Bool.not_false, ne_eq, Int.reduceEq, not_true_eq_false, not_false_eq_true, Int.reduceLT, UInt8.reduceLT, UInt8.reduceLE, UInt8.reduceToNat]
                exact fin (0, 0) _ _ (by simp only [faultOf, c1, c2, c3, if_false, Bool.true_eq_false]) (.inl ⟨rfl, rfl, rfl⟩)
      obtain ⟨b, s', c1, c2⟩ := hmain
      rw [hK] at c2
      rcases c2 with ⟨rfl, c2⟩ | ⟨rfl, c2⟩
      · exact .inl ⟨s', c1, c2⟩
      · exact .inr ⟨s', c1, c2⟩)
    (by rw [hP]; exact ⟨[], by simp, rfl, refLines_ok⟩)
  rw [hD] at hs1
  obtain ⟨ts, x', rfl, hx'⟩ := hs1
  have hleave : leave ⟨st.boxes ++ [[x], [.int .i64 0, .int .i64 0], [.int .i64 0, .int .i64 0], [x]], st.toks, st.loops ++ [rec], min st.boxes.length (st.boxes.length + 3)⟩
      ⟨st.boxes ++ [[x], [.int .i64 0, .int .i64 0], [.int .i64 (rightOf l).1, .int .i64 (rightOf l).2], [x]], st.toks ++ ts, st.loops ++ [{ rec with status := if x' = .normal then 0 else 2, pend := x' }], st.boxes.length + 4⟩ (.tup []) =
      (.tup [], ⟨st.boxes ++ [[x], [.int .i64 0, .int .i64 0], [.int .i64 (rightOf l).1, .int .i64 (rightOf l).2], [x]], st.toks, st.loops ++ [{ rec with status := if x' = .normal then 0 else 2, pend := x' }], min st.boxes.length (st.boxes.length + 3)⟩) := by
    simp [leave, PV.inB, PV.inB.inBAll, keepRes, keepVals]
    exact List.take_of_length_le (by simp)
  rw [hleave] at hcall
  refine ⟨_, _, { rec with status := if x' = .normal then 0 else 2, pend := x' }, hcall, get_app0, ?_, ?_⟩
  · rcases hx' with rfl | rfl <;> simp
  have hld2 : ∀ a b ts ls lo, loadPV ⟨st.boxes ++ [[x], [.int .i64 0, .int .i64 0], [.int .i64 a, .int .i64 b], [x]], ts, ls, lo⟩ true 2 (.ptr (st.boxes.length + 2) 0) = some (.agg [.int .i64 a, .int .i64 b]) := fun a b ts ls lo => by
    simp [loadPV, get_app, readCells]
  have hst : ∀ a b ts ls lo, storePV ⟨st.boxes ++ [[x], [.int .i64 0, .int .i64 0], [.int .i64 a, .int .i64 b], [x]], ts, ls, lo⟩ 2 (.ptr (st.boxes.length + 1) 0) (.agg [.int .i64 a, .int .i64 b]) =
      some ⟨st.boxes ++ [[x], [.int .i64 a, .int .i64 b], [.int .i64 a, .int .i64 b], [x]], ts, ls, lo⟩ := fun a b ts ls lo => by
    simp [storePV, get_app, set_app, PV.cells, PV.inB, PV.inB.inBAll, setCells, hasTok, tokOf, leafOk]
  have hmin : min st.boxes.length (st.boxes.length + 3) = st.boxes.length := by omega
  rcases hx' with rfl | rfl <;>
  · simp (maxSteps := 1000000) (disch := omega) only [hmin, List.take_left, hld2, hst, W_seq, W_region, W_cond, W_block, W_skip, W_label, W_exit, W_goto, W_ret, WO_cons, WO_consG, WO_nil, wantedA_eq, wantB, evOp, ev_tmp, ev_const, ev_fn, WN_some, WN_none, updO_some, updO_none, upd_eq,
 ↓reduceIte, Nat.reduceEqDiff, List.nil_append, List.cons_append, List.append_nil, List.map_cons, List.map_nil, env0_zero, env0_succ, env0_nil, Option.map_some, Option.map_none, seqQ_normal, seqQ_ret, seqQ_exit, seqQ_goto, blockQ_normal, blockQ_ret, blockQ_exit, blockQ_goto, condW_bool, loopQ_ret, loopQ_exit, loopQ_goto, endQ_ret, endQ_normal,
 lss_i, leq_i, gtr_i, geq_i, eql_i, neq_i, eql_8, neq_8, lss_8, leq_8, gtr_8, geq_8, eql_s, neq_s, eql_b, neq_b, not_b, by_bys, by_nils, load_cp1, beq_true, beq_false, Bool.not_eq_true', decide_eq_true_eq, decide_eq_false_iff_not, decide_true, decide_false,
 Int.toNat_natCast, Int.ofNat_lt, Int.ofNat_le, Int.natCast_inj, Bool.false_eq_true, Bool.true_eq_false, extPV, List.getElem?_cons_zero, List.getElem?_cons_succ, nilckPV, Int.reduceToNat, Int.reduceLE, true_and, and_true, reduceCtorEq, or_false, false_or, or_true, Option.some.injEq, exists_eq_left', Bool.not_true, Bool.not_false, ne_eq, Int.reduceEq, not_true_eq_false, not_false_eq_true, Int.reduceLT, UInt8.reduceLT, UInt8.reduceLE, UInt8.reduceToNat]
    refine ⟨.agg [.int .i64 (rightOf l).1, .int .i64 (rightOf l).2], ?_, ?_⟩
    · simp [resOf, rvAll, rv1, loadPV, get_app, readCells, upd_eq, notTup, packRes]
    · simp [leave, PV.inB, PV.inB.inBAll, keepRes, keepVal, keepCells, keepLeaf, fV]
end Go.Ab

/-
  What is wrong with a text: the document's answer.
-/
namespace Go.Ab
set_option linter.unusedVariables false
set_option linter.unusedSimpArgs false
variable {st : St} {e : Env}

theorem rightGo_append {n : Nat} {a b : List (Nat × List UInt8 × Bool)} (h : ∀ q ∈ a, (faultOf n q).2 = 0) : rightGo n (a ++ b) = rightGo n b := by
  induction a with
  | nil => rfl
  | cons q a ih =>
    simp only [List.cons_append, rightGo]
    rw [if_neg (by simpa using h q (by simp)), ih (fun q' h' => h q' (by simp [h']))]

theorem place_len {ss : List (List UInt8 × Bool)} {a : Nat} : (place a ss).length = ss.length := by
  induction ss generalizing a with
  | nil => rfl
  | cons q r ih => obtain ⟨b, w⟩ := q; simp [place, ih]
theorem segs_len : ∀ (m acc : List UInt8), (segs m acc).length ≤ m.length + 1 := by
  intro m acc
  induction m, acc using segs.induct with
  | case1 => simp [segs]
  | case2 acc h => simp [segs, h]
  | case3 acc c => simp [segs]
  | case4 acc c d r h ih => simp only [segs, h, and_self, if_true, List.length_cons]; omega
  | case5 acc c d r h ih => simp only [segs, h, if_false, List.length_cons] at ih ⊢; omega

theorem rRight_spec {x : PV} {l : List UInt8} (hx : x.by = some l) (hl : l.length ≤ 1000000) : call prog (.fn 6 []) [x] st = some (fV (rightOf l), st) := by
  refine call_of_W prog_6 ?_
  unfold F_posthornref05_Right; dsimp only
  have hcl : ∀ i : Nat, i < (refLines l).length → (((refLines l).map lnV).getD i .undef).cells = [.int .i64 ((((refLines l).getD i (0, [], false)).1 : Nat) : Int), .bys .no ((refLines l).getD i (0, [], false)).2.1, .bool ((refLines l).getD i (0, [], false)).2.2] := fun i hi => by
    simp [List.getD, hi, lnV, PV.cells]
  simp (maxSteps := 1000000) (disch := omega) only [allocPV, Lines_spec hx hl, newS_eq, W_seq, W_region, W_cond, W_block, W_skip, W_label, W_exit, W_goto, W_ret, WO_cons, WO_consG, WO_nil, wantedA_eq, wantB, evOp, ev_tmp, ev_const, ev_fn, WN_some, WN_none, updO_some, updO_none, upd_eq,
 ↓reduceIte, Nat.reduceEqDiff, List.nil_append, List.cons_append, List.append_nil, List.map_cons, List.map_nil, env0_zero, env0_succ, env0_nil, Option.map_some, Option.map_none, seqQ_normal, seqQ_ret, seqQ_exit, seqQ_goto, blockQ_normal, blockQ_ret, blockQ_exit, blockQ_goto, condW_bool, loopQ_ret, loopQ_exit, loopQ_goto, endQ_ret, endQ_normal,
 lss_i, leq_i, gtr_i, geq_i, eql_i, neq_i, eql_8, neq_8, lss_8, leq_8, gtr_8, geq_8, eql_s, neq_s, eql_b, neq_b, not_b, by_bys, by_nils, load_cp1, beq_true, beq_false, Bool.not_eq_true', decide_eq_true_eq, decide_eq_false_iff_not, decide_true, decide_false,
 Int.toNat_natCast, Int.ofNat_lt, Int.ofNat_le, Int.natCast_inj, Bool.false_eq_true, Bool.true_eq_false, extPV, List.getElem?_cons_zero, List.getElem?_cons_succ, nilckPV, Int.reduceToNat, Int.reduceLE, true_and, and_true, reduceCtorEq, or_false, false_or, or_true, Option.some.injEq, exists_eq_left', Bool.not_true, Bool.not_false, ne_eq, Int.reduceEq, not_true_eq_false, not_false_eq_true, Int.reduceLT, UInt8.reduceLT, UInt8.reduceLE, UInt8.reduceToNat]
  generalize hv : newSl _ 3 _ = v
  have hvs : v.vs 3 = some ((refLines l).map lnV) := by rw [← hv]; exact newSl_vs
  generalize hts : (if ((refLines l).map lnV).isEmpty = true then ([] : List Bool) else [true]) = ts
  have hlen : ((refLines l).map lnV).length = (refLines l).length := by simp
  have hll : (refLines l).length ≤ 2000000 := by
    have := segs_len l []
    simp only [refLines, place_len]; omega
  have hst : ∀ a b ts ls lo, storePV ⟨st.boxes ++ [[.int .i64 0, .int .i64 0]], ts, ls, lo⟩ 2 (.ptr st.boxes.length 0) (.agg [.int .i64 a, .int .i64 b]) =
      some ⟨st.boxes ++ [[.int .i64 a, .int .i64 b]], ts, ls, lo⟩ := fun a b ts ls lo => by
    simp [storePV, PV.cells, PV.inB, PV.inB.inBAll, setCells, hasTok, tokOf, leafOk]
  have fin : ∀ (f : Int × Int) (e2 : Env), e2 2 = .ptr st.boxes.length 0 → ∃ rv, resOf e2 ⟨st.boxes ++ [[.int .i64 f.1, .int .i64 f.2]], st.toks ++ ts, st.loops, st.boxes.length⟩ [.cell 2 true 2] = some rv ∧ leave st ⟨st.boxes ++ [[.int .i64 f.1, .int .i64 f.2]], st.toks ++ ts, st.loops, st.boxes.length⟩ rv = (fV f, st) := fun f e2 h => by
    refine ⟨fV f, ?_, leave_gone rfl rfl⟩
    simp [resOf, rvAll, rv1, h, loadPV, readCells, notTup, packRes, fV]
  obtain ⟨I, hI⟩ : ∃ I : Nat → Env → St → Prop, I = fun n e s => ∃ i : Nat, n = (refLines l).length - i ∧ i ≤ (refLines l).length ∧ (∀ q ∈ (refLines l).take i, (faultOf l.length q).2 = 0) ∧ s = ⟨st.boxes ++ [[.int .i64 0, .int .i64 0]], st.toks ++ ts, st.loops, st.boxes.length⟩ ∧ e 0 = x ∧ e 2 = .ptr st.boxes.length 0 ∧ e 3 = v ∧ e 4 = .int .i64 (i : Int) := ⟨_, rfl⟩
  refine W_loop I ?_ (n := (refLines l).length) (by rw [hI]; exact ⟨0, rfl, by omega, by simp, rfl, rfl, rfl, rfl, rfl⟩)
  intro n e s h
  rw [hI] at h
  obtain ⟨i, rfl, hi, hn, rfl, h0, h2, h3, h4⟩ := h
  by_cases hlt : i < (refLines l).length
  · have hget : (refLines l).getD i (0, [], false) ∈ refLines l := by simp [List.getD, hlt]
    have hsplit : rightOf l = rightGo l.length ((refLines l).getD i (0, [], false) :: (refLines l).drop (i + 1)) := by
      unfold rightOf
      conv => lhs; rw [← List.take_append_drop i (refLines l)]
      rw [rightGo_append hn, List.drop_eq_getElem_cons hlt]
      simp [List.getD, hlt]
    have hc := hcl i hlt
    generalize hq : (refLines l).getD i (0, [], false) = q at hc hget hsplit
    have hqo := refLines_ok q hget
    have hb2 := bareAt_lt (l := q.2.1)
    have hq1 := hqo.1
    by_cases c1 : 0 ≤ bareAt q.2.1
    · have hr : rightOf l = ((q.1 : Int) + bareAt q.2.1, 41) := by
        rw [hsplit]; simp [rightGo, faultOf, c1]
      simp (maxSteps := 1000000) (disch := omega) only [h0, h2, h3, h4, hlt, len_vs hvs, hlen, iaddr_vs hvs, hc, faddrPV, List.drop_succ_cons, List.drop_zero, loadPV, readCells, rbare_spec by_bys, c1, add_i, build2 Leaf_int Leaf_int, hst, W_seq, W_region, W_cond, W_block, W_skip, W_label, W_exit, W_goto, W_ret, WO_cons, WO_consG, WO_nil, wantedA_eq, wantB, evOp, ev_tmp, ev_const, ev_fn, WN_some, WN_none, updO_some, updO_none, upd_eq,
 ↓reduceIte, Nat.reduceEqDiff, List.nil_append, List.cons_append, List.append_nil, List.map_cons, List.map_nil, env0_zero, env0_succ, env0_nil, Option.map_some, Option.map_none, seqQ_normal, seqQ_ret, seqQ_exit, seqQ_goto, blockQ_normal, blockQ_ret, blockQ_exit, blockQ_goto, condW_bool, loopQ_ret, loopQ_exit, loopQ_goto, endQ_ret, endQ_normal,
 lss_i, leq_i, gtr_i, geq_i, eql_i, neq_i, eql_8, neq_8, lss_8, leq_8, gtr_8, geq_8, eql_s, neq_s, eql_b, neq_b, not_b, by_bys, by_nils, load_cp1, beq_true, beq_false, Bool.not_eq_true', decide_eq_true_eq, decide_eq_false_iff_not, decide_true, decide_false,
 Int.toNat_natCast, Int.ofNat_lt, Int.ofNat_le, Int.natCast_inj, Bool.false_eq_true, Bool.true_eq_false, extPV, List.getElem?_cons_zero, List.getElem?_cons_succ, nilckPV, Int.reduceToNat, Int.reduceLE, true_and, and_true, reduceCtorEq, or_false, false_or, or_true, Option.some.injEq, exists_eq_left', Bool.not_true, Bool.not_false, ne_eq, Int.reduceEq, not_true_eq_false, not_false_eq_true, Int.reduceLT, UInt8.reduceLT, UInt8.reduceLE, UInt8.reduceToNat]
      rw [hr]; exact fin ((q.1 : Int) + bareAt q.2.1, 41) _ h2
    · by_cases c2 : 998 < q.2.1.length
      · have c2' : (998 : Int) < (q.2.1.length : Int) := by omega
        have hr : rightOf l = ((q.1 : Int), 40) := by
          rw [hsplit]; simp [rightGo, faultOf, c1, c2]
        simp (maxSteps := 1000000) (disch := omega) only [h0, h2, h3, h4, hlt, len_vs hvs, hlen, iaddr_vs hvs, hc, faddrPV, List.drop_succ_cons, List.drop_zero, loadPV, readCells, rbare_spec by_bys, len_by by_bys, c1, c2', build2 Leaf_int Leaf_int, hst, W_seq, W_region, W_cond, W_block, W_skip, W_label, W_exit, W_goto, W_ret, WO_cons, WO_consG, WO_nil, wantedA_eq, wantB, evOp, ev_tmp, ev_const, ev_fn, WN_some, WN_none, updO_some, updO_none, upd_eq,
 ↓reduceIte, Nat.reduceEqDiff, List.nil_append, List.cons_append, List.append_nil, List.map_cons, List.map_nil, env0_zero, env0_succ, env0_nil, Option.map_some, Option.map_none, seqQ_normal, seqQ_ret, seqQ_exit, seqQ_goto, blockQ_normal, blockQ_ret, blockQ_exit, blockQ_goto, condW_bool, loopQ_ret, loopQ_exit, loopQ_goto, endQ_ret, endQ_normal,
 lss_i, leq_i, gtr_i, geq_i, eql_i, neq_i, eql_8, neq_8, lss_8, leq_8, gtr_8, geq_8, eql_s, neq_s, eql_b, neq_b, not_b, by_bys, by_nils, load_cp1, beq_true, beq_false, Bool.not_eq_true', decide_eq_true_eq, decide_eq_false_iff_not, decide_true, decide_false,
 Int.toNat_natCast, Int.ofNat_lt, Int.ofNat_le, Int.natCast_inj, Bool.false_eq_true, Bool.true_eq_false, extPV, List.getElem?_cons_zero, List.getElem?_cons_succ, nilckPV, Int.reduceToNat, Int.reduceLE, true_and, and_true, reduceCtorEq, or_false, false_or, or_true, Option.some.injEq, exists_eq_left', Bool.not_true, Bool.not_false, ne_eq, Int.reduceEq, not_true_eq_false, not_false_eq_true, Int.reduceLT, UInt8.reduceLT, UInt8.reduceLE, UInt8.reduceToNat]
        rw [hr]; exact fin ((q.1 : Int), 40) _ h2
      · have c2' : ¬ (998 : Int) < (q.2.1.length : Int) := by omega
        cases c3 : q.2.2 with
        | false =>
          have hr : rightOf l = ((l.length : Int), 42) := by
            rw [hsplit]; simp [rightGo, faultOf, c1, c2, c3]
          simp (maxSteps := 1000000) (disch := omega) only [h0, h2, h3, h4, hlt, len_vs hvs, hlen, iaddr_vs hvs, hc, c3, faddrPV, List.drop_succ_cons, List.drop_zero, loadPV, readCells, rbare_spec by_bys, len_by by_bys, len_by hx, c1, c2', build2 Leaf_int Leaf_int, hst, W_seq, W_region, W_cond, W_block, W_skip, W_label, W_exit, W_goto, W_ret, WO_cons, WO_consG, WO_nil, wantedA_eq, wantB, evOp, ev_tmp, ev_const, ev_fn, WN_some, WN_none, updO_some, updO_none, upd_eq,
 ↓reduceIte, Nat.reduceEqDiff, List.nil_append, List.cons_append, List.append_nil, List.map_cons, List.map_nil, env0_zero, env0_succ, env0_nil, Option.map_some, Option.map_none, seqQ_normal, seqQ_ret, seqQ_exit, seqQ_goto, blockQ_normal, blockQ_ret, blockQ_exit, blockQ_goto, condW_bool, loopQ_ret, loopQ_exit, loopQ_goto, endQ_ret, endQ_normal,
 lss_i, leq_i, gtr_i, geq_i, eql_i, neq_i, eql_8, neq_8, lss_8, leq_8, gtr_8, geq_8, eql_s, neq_s, eql_b, neq_b, not_b, by_bys, by_nils, load_cp1, beq_true, beq_false, Bool.not_eq_true', decide_eq_true_eq, decide_eq_false_iff_not, decide_true, decide_false,
 Int.toNat_natCast, Int.ofNat_lt, Int.ofNat_le, Int.natCast_inj, Bool.false_eq_true, Bool.true_eq_false, extPV, List.getElem?_cons_zero, List.getElem?_cons_succ, nilckPV, Int.reduceToNat, Int.reduceLE, true_and, and_true, reduceCtorEq, or_false, false_or, or_true, Option.some.injEq, exists_eq_left', Bool.not_true, Bool.not_false, ne_eq, Int.reduceEq, not_true_eq_false, not_false_eq_true, Int.reduceLT, UInt8.reduceLT, UInt8.reduceLE, UInt8.reduceToNat]
          rw [hr]; exact fin ((l.length : Int), 42) _ h2
        | true =>
          simp (maxSteps := 1000000) (disch := omega) only [h0, h2, h3, h4, hlt, len_vs hvs, hlen, iaddr_vs hvs, hc, c3, faddrPV, List.drop_succ_cons, List.drop_zero, loadPV, readCells, rbare_spec by_bys, len_by by_bys, len_by hx, c1, c2', build2 Leaf_int Leaf_int, hst, add_n, W_seq, W_region, W_cond, W_block, W_skip, W_label, W_exit, W_goto, W_ret, WO_cons, WO_consG, WO_nil, wantedA_eq, wantB, evOp, ev_tmp, ev_const, ev_fn, WN_some, WN_none, updO_some, updO_none, upd_eq,
 ↓reduceIte, Nat.reduceEqDiff, List.nil_append, List.cons_append, List.append_nil, List.map_cons, List.map_nil, env0_zero, env0_succ, env0_nil, Option.map_some, Option.map_none, seqQ_normal, seqQ_ret, seqQ_exit, seqQ_goto, blockQ_normal, blockQ_ret, blockQ_exit, blockQ_goto, condW_bool, loopQ_ret, loopQ_exit, loopQ_goto, endQ_ret, endQ_normal,
 lss_i, leq_i, gtr_i, geq_i, eql_i, neq_i, eql_8, neq_8, lss_8, leq_8, gtr_8, geq_8, eql_s, neq_s, eql_b, neq_b, not_b, by_bys, by_nils, load_cp1, beq_true, beq_false, Bool.not_eq_true', decide_eq_true_eq, decide_eq_false_iff_not, decide_true, decide_false,
 Int.toNat_natCast, Int.ofNat_lt, Int.ofNat_le, Int.natCast_inj, Bool.false_eq_true, Bool.true_eq_false, extPV, List.getElem?_cons_zero, List.getElem?_cons_succ, nilckPV, Int.reduceToNat, Int.reduceLE, true_and, and_true, reduceCtorEq, or_false, false_or, or_true, Option.some.injEq, exists_eq_left', Bool.not_true, Bool.not_false, ne_eq, Int.reduceEq, not_true_eq_false, not_false_eq_true, Int.reduceLT, UInt8.reduceLT, UInt8.reduceLE, UInt8.reduceToNat]
          refine loopQ_intro (m := (refLines l).length - (i + 1)) (by omega) ?_
          rw [hI]
          refine ⟨i + 1, rfl, by omega, fun q' hq' => ?_, rfl, h0, h2, h3, rfl⟩
          rw [List.take_succ_eq_append_getElem hlt, List.mem_append] at hq'
          rcases hq' with hq' | hq'
          · exact hn q' hq'
          · have : q' = q := by
              simp at hq'; rw [hq', ← hq]; simp [List.getD, hlt]
            rw [this]; simp [faultOf, c1, c2, c3]
  · simp (maxSteps := 1000000) (disch := omega) only [h0, h2, h3, h4, hlt, len_vs hvs, hlen, buildCells, hst, W_seq, W_region, W_cond, W_block, W_skip, W_label, W_exit, W_goto, W_ret, WO_cons, WO_consG, WO_nil, wantedA_eq, wantB, evOp, ev_tmp, ev_const, ev_fn, WN_some, WN_none, updO_some, updO_none, upd_eq,
 ↓reduceIte, Nat.reduceEqDiff, List.nil_append, List.cons_append, List.append_nil, List.map_cons, List.map_nil, env0_zero, env0_succ, env0_nil, Option.map_some, Option.map_none, seqQ_normal, seqQ_ret, seqQ_exit, seqQ_goto, blockQ_normal, blockQ_ret, blockQ_exit, blockQ_goto, condW_bool, loopQ_ret, loopQ_exit, loopQ_goto, endQ_ret, endQ_normal,
 lss_i, leq_i, gtr_i, geq_i, eql_i, neq_i, eql_8, neq_8, lss_8, leq_8, gtr_8, geq_8, eql_s, neq_s, eql_b, neq_b, not_b, by_bys, by_nils, load_cp1, beq_true, beq_false, Bool.not_eq_true', decide_eq_true_eq, decide_eq_false_iff_not, decide_true, decide_false,
 Int.toNat_natCast, Int.ofNat_lt, Int.ofNat_le, Int.natCast_inj, Bool.false_eq_true, Bool.true_eq_false, extPV, List.getElem?_cons_zero, List.getElem?_cons_succ, nilckPV, Int.reduceToNat, Int.reduceLE, true_and, and_true, reduceCtorEq, or_false, false_or, or_true, Option.some.injEq, exists_eq_left', Bool.not_true, Bool.not_false, ne_eq, Int.reduceEq, not_true_eq_false, not_false_eq_true, Int.reduceLT, UInt8.reduceLT, UInt8.reduceLE, UInt8.reduceToNat]
    have hr : rightOf l = (0, 0) := by
      unfold rightOf
      obtain rfl : i = (refLines l).length := by omega
      have := rightGo_append (b := []) hn
      rw [List.take_length, List.append_nil] at this
      rw [this]; rfl
    rw [hr]; exact fin (0, 0) _ h2
end Go.Ab

/-
  A text's frame: the document's answer.
-/
namespace Go.Ab
set_option linter.unusedVariables false
set_option linter.unusedSimpArgs false
variable {st : St} {e : Env}

/-- A line in a frame: a point more ahead of a point. -/
def stuffLine (q : Nat × List UInt8 × Bool) : List UInt8 := (if q.2.1.head? = some 46 then [46] else []) ++ q.2.1 ++ [13, 10]
def stuffLines (r : List (Nat × List UInt8 × Bool)) : List UInt8 := r.flatMap stuffLine
def stuffOf (l : List UInt8) : List UInt8 := stuffLines (refLines l) ++ [46, 13, 10]

theorem segs_sum : ∀ (m acc : List UInt8), ((segs m acc).map fun q => q.1.length).sum ≤ m.length + acc.length := by
  intro m acc
  induction m, acc using segs.induct with
  | case1 => simp [segs]
  | case2 acc h => simp [segs, h]
  | case3 acc c => simp [segs]; omega
  | case4 acc c d r h ih => simp only [segs, h, and_self, if_true, List.map_cons, List.sum_cons, List.length_cons] at ih ⊢; simp at ih; omega
  | case5 acc c d r h ih => simp only [segs, h, if_false, List.length_cons] at ih ⊢; simp at ih; omega
theorem stuffLines_len {r : List (Nat × List UInt8 × Bool)} : (stuffLines r).length ≤ (r.map fun q => q.2.1.length).sum + 3 * r.length := by
  induction r with
  | nil => simp [stuffLines]
  | cons q r ih =>
    simp only [stuffLines, List.flatMap_cons, List.length_append, List.map_cons, List.sum_cons, List.length_cons] at ih ⊢
    have : (stuffLine q).length ≤ q.2.1.length + 3 := by simp only [stuffLine]; split <;> simp <;> omega
    omega
theorem place_sum {ss : List (List UInt8 × Bool)} {a : Nat} : ((place a ss).map fun q => q.2.1.length).sum = (ss.map fun q => q.1.length).sum := by
  induction ss generalizing a with
  | nil => rfl
  | cons q r ih => obtain ⟨b, w⟩ := q; simp [place, ih]
theorem sum_take {r : List (Nat × List UInt8 × Bool)} {i : Nat} : (stuffLines (r.take i)).length ≤ (stuffLines r).length := by
  have h : stuffLines r = stuffLines (r.take i) ++ stuffLines (r.drop i) := by
    simp only [stuffLines]; rw [← List.flatMap_append, List.take_append_drop]
  rw [h]; simp
theorem stuff_len {l : List UInt8} : (stuffLines (refLines l)).length ≤ 4 * l.length + 3 := by
  have h1 := stuffLines_len (r := refLines l)
  have h2 := segs_sum l []
  have h3 := segs_len l []
  simp only [refLines, place_sum, place_len] at *
  simp at h2; omega

theorem rStuff_spec {x : PV} {l : List UInt8} (hx : x.by = some l) (hl : l.length ≤ 1000000) :
    call prog (.fn 4 []) [x] st = some (if (rightOf l).2 ≠ 0 then (.tup [.nils, .int .i64 (rightOf l).2], st) else (.tup [.bys (.own st.toks.length) (stuffOf l), .int .i64 0], st.tok1)) := by
  by_cases hr : (rightOf l).2 = 0
  · rw [if_neg (by simpa using hr)]
    refine call_of_W prog_4 ?_
    unfold F_posthornref05_Stuff; dsimp only
    have hst : ∀ a b ts ls lo, storePV ⟨st.boxes ++ [[.int .i64 0, .int .i64 0]], ts, ls, lo⟩ 2 (.ptr st.boxes.length 0) (fV (a, b)) =
        some ⟨st.boxes ++ [[.int .i64 a, .int .i64 b]], ts, ls, lo⟩ := fun a b ts ls lo => by
      simp [storePV, fV, PV.cells, PV.inB, PV.inB.inBAll, setCells, hasTok, tokOf, leafOk]
    have hld : ∀ a b ts ls lo, loadPV ⟨st.boxes ++ [[.int .i64 a, .int .i64 b]], ts, ls, lo⟩ false 1 (.ptr st.boxes.length 1) = some (.int .i64 b) := fun a b ts ls lo => by
      simp [loadPV, readCells]
    have hcl : ∀ i : Nat, i < (refLines l).length → (((refLines l).map lnV).getD i .undef).cells = [.int .i64 ((((refLines l).getD i (0, [], false)).1 : Nat) : Int), .bys .no ((refLines l).getD i (0, [], false)).2.1, .bool ((refLines l).getD i (0, [], false)).2.2] := fun i hi => by
      simp [List.getD, hi, lnV, PV.cells]
    have hrf : fV (rightOf l) = fV ((rightOf l).1, (rightOf l).2) := rfl
    simp (maxSteps := 1000000) (disch := omega) only [allocPV, rRight_spec hx hl, hrf, hst, hld, faddrPV, Nat.zero_add, hr, Lines_spec hx hl, newS_eq, W_seq, W_region, W_cond, W_block, W_skip, W_label, W_exit, W_goto, W_ret, WO_cons, WO_consG, WO_nil, wantedA_eq, wantB, evOp, ev_tmp, ev_const, ev_fn, WN_some, WN_none, updO_some, updO_none, upd_eq,
 ↓reduceIte, Nat.reduceEqDiff, List.nil_append, List.cons_append, List.append_nil, List.map_cons, List.map_nil, env0_zero, env0_succ, env0_nil, Option.map_some, Option.map_none, seqQ_normal, seqQ_ret, seqQ_exit, seqQ_goto, blockQ_normal, blockQ_ret, blockQ_exit, blockQ_goto, condW_bool, loopQ_ret, loopQ_exit, loopQ_goto, endQ_ret, endQ_normal,
 lss_i, leq_i, gtr_i, geq_i, eql_i, neq_i, eql_8, neq_8, lss_8, leq_8, gtr_8, geq_8, eql_s, neq_s, eql_b, neq_b, not_b, by_bys, by_nils, load_cp1, beq_true, beq_false, Bool.not_eq_true', decide_eq_true_eq, decide_eq_false_iff_not, decide_true, decide_false,
 Int.toNat_natCast, Int.ofNat_lt, Int.ofNat_le, Int.natCast_inj, Bool.false_eq_true, Bool.true_eq_false, extPV, List.getElem?_cons_zero, List.getElem?_cons_succ, nilckPV, Int.reduceToNat, Int.reduceLE, true_and, and_true, reduceCtorEq, or_false, false_or, or_true, Option.some.injEq, exists_eq_left', Bool.not_true, Bool.not_false, ne_eq, Int.reduceEq, not_true_eq_false, not_false_eq_true, Int.reduceLT, UInt8.reduceLT, UInt8.reduceLE, UInt8.reduceToNat]
    generalize hv : newSl _ 3 _ = v
    have hvs : v.vs 3 = some ((refLines l).map lnV) := by rw [← hv]; exact newSl_vs
    generalize hts : (if ((refLines l).map lnV).isEmpty = true then ([] : List Bool) else [true]) = ts
    have hlen : ((refLines l).map lnV).length = (refLines l).length := by simp
    have hll : (refLines l).length ≤ 2000000 := by
      have := segs_len l []
      simp only [refLines, place_len]; omega
    have hsl := stuff_len (l := l)
    obtain ⟨I, hI⟩ : ∃ I : Nat → Env → St → Prop, I = fun n e s => ∃ (i : Nat) (w : PV), n = (refLines l).length - i ∧ i ≤ (refLines l).length ∧ GrewAt (st.boxes ++ [[.int .i64 (rightOf l).1, .int .i64 0]]) st.toks st.loops st.boxes.length s ∧ OwnB st s w (stuffLines ((refLines l).take i)) ∧ e 0 = x ∧ e 5 = v ∧ e 6 = w ∧ e 7 = .int .i64 (i : Int) := ⟨_, rfl⟩
    refine W_loop I ?_ (n := (refLines l).length) (by rw [hI]; exact ⟨0, .nils, rfl, by omega, .start, .inl ⟨rfl, by simp [stuffLines]⟩, rfl, rfl, rfl, rfl⟩)
    intro n e s h
    rw [hI] at h
    obtain ⟨i, w, rfl, hi, hg, ho, h0, h5, h6, h7⟩ := h
    have hsti := sum_take (r := refLines l) (i := i)
    by_cases hlt : i < (refLines l).length
    · have hc := hcl i hlt
      have hgq : (refLines l).take (i + 1) = (refLines l).take i ++ [(refLines l).getD i (0, [], false)] := by
        rw [List.take_succ_eq_append_getElem hlt]; simp [List.getD, hlt]
      have hqo := refLines_ok (l := l) ((refLines l).getD i (0, [], false)) (by simp [List.getD, hlt])
      generalize hq : (refLines l).getD i (0, [], false) = q at hc hgq hqo
      have hq1 := hqo.1
      have hlit1 : lit8Fill (List.replicate 1 0) [(0, .b8 46)] = some [46] := rfl
      have hlit2 : lit8Fill (List.replicate 2 0) [(0, .b8 13), (1, .b8 10)] = some [13, 10] := rfl
      -- the three pieces
      have pieces : ∀ (w1 : PV) (s1 : St) (o1 : List UInt8), GrewAt (st.boxes ++ [[.int .i64 (rightOf l).1, .int .i64 0]]) st.toks st.loops st.boxes.length s1 → OwnB st s1 w1 o1 → o1.length ≤ 5000000 →
          ∃ w2 s2 w3 s3, app8 s1 w1 (.bys .no q.2.1) = some (w2, s2) ∧ app8 s2.tok1 w2 (.bys (.own s2.toks.length) [13, 10]) = some (w3, s3) ∧ GrewAt (st.boxes ++ [[.int .i64 (rightOf l).1, .int .i64 0]]) st.toks st.loops st.boxes.length s3 ∧ OwnB st s3 w3 (o1 ++ q.2.1 ++ [13, 10]) := by
        intro w1 s1 o1 g1 b1 hl1
        obtain ⟨w2, s2, a2, g2, b2⟩ := app8_any g1 b1 (y := .bys .no q.2.1) by_bys (by simp [room]; omega)
        obtain ⟨w3, s3, a3, g3, b3⟩ := app8_any g2.tok1 b2.tok1 (y := .bys (.own s2.toks.length) [13, 10]) by_bys (by simp [room]; omega)
        exact ⟨w2, s2, w3, s3, a2, a3, g3, b3⟩
      by_cases hd : q.2.1.head? = some 46
      · have hne : 0 < q.2.1.length := by
          cases hb : q.2.1 with
          | nil => rw [hb] at hd; simp at hd
          | cons c r => simp
        have hne' : (0 : Int) < (q.2.1.length : Int) := by omega
        have hg0 : q.2.1.getD 0 0 = 46 := by
          cases hb : q.2.1 with
          | nil => rw [hb] at hd; simp at hd
          | cons c r => rw [hb] at hd; simp at hd; simp [hd]
        obtain ⟨w1, s1, a1, g1, b1⟩ := app8_any hg.tok1 ho.tok1 (y := .bys (.own s.toks.length) [46]) by_bys (by simp [room]; omega)
        obtain ⟨w2, s2, w3, s3, a2, a3, g3, b3⟩ := pieces w1 s1 _ g1 b1 (by simp; omega)
        simp (maxSteps := 1000000) (disch := omega) only [h0, h5, h6, h7, hlt, len_vs hvs, hlen, iaddr_vs hvs, hc, faddrPV, List.drop_succ_cons, List.drop_zero, loadPV, readCells, len_by by_bys, hne', iaddr_by by_bys, eq_true hg0, hlit1, hlit2, freshT_eq, a1, a2, a3, add_n, W_seq, W_region, W_cond, W_block, W_skip, W_label, W_exit, W_goto, W_ret, WO_cons, WO_consG, WO_nil, wantedA_eq, wantB, evOp, ev_tmp, ev_const, ev_fn, WN_some, WN_none, updO_some, updO_none, upd_eq,
 ↓reduceIte, Nat.reduceEqDiff, List.nil_append, List.cons_append, List.append_nil, List.map_cons, List.map_nil, env0_zero, env0_succ, env0_nil, Option.map_some, Option.map_none, seqQ_normal, seqQ_ret, seqQ_exit, seqQ_goto, blockQ_normal, blockQ_ret, blockQ_exit, blockQ_goto, condW_bool, loopQ_ret, loopQ_exit, loopQ_goto, endQ_ret, endQ_normal,
 lss_i, leq_i, gtr_i, geq_i, eql_i, neq_i, eql_8, neq_8, lss_8, leq_8, gtr_8, geq_8, eql_s, neq_s, eql_b, neq_b, not_b, by_bys, by_nils, load_cp1, beq_true, beq_false, Bool.not_eq_true', decide_eq_true_eq, decide_eq_false_iff_not, decide_true, decide_false,
 Int.toNat_natCast, Int.ofNat_lt, Int.ofNat_le, Int.natCast_inj, Bool.false_eq_true, Bool.true_eq_false, extPV, List.getElem?_cons_zero, List.getElem?_cons_succ, nilckPV, Int.reduceToNat, Int.reduceLE, true_and, and_true, reduceCtorEq, or_false, false_or, or_true, Option.some.injEq, exists_eq_left', Bool.not_true, Bool.not_false, ne_eq, Int.reduceEq, not_true_eq_false, not_false_eq_true, Int.reduceLT, UInt8.reduceLT, UInt8.reduceLE, UInt8.reduceToNat]
        refine loopQ_intro (m := (refLines l).length - (i + 1)) (by omega) ?_
        rw [hI]
        refine ⟨i + 1, w3, rfl, by omega, g3, ?_, h0, h5, rfl, rfl⟩
        rw [hgq]
        simpa [stuffLines, stuffLine, hd] using b3
      · have hg0 : ¬ (0 < q.2.1.length ∧ q.2.1.getD 0 0 = 46) := by
          rintro ⟨h1, h2⟩
          cases hb : q.2.1 with
          | nil => rw [hb] at h1; simp at h1
          | cons c r => rw [hb] at h2 hd; simp at h2 hd; exact hd h2
        obtain ⟨w2, s2, w3, s3, a2, a3, g3, b3⟩ := pieces w s _ hg ho (by omega)
        by_cases hne : 0 < q.2.1.length
        · have hne' : (0 : Int) < (q.2.1.length : Int) := by omega
          have hg1 : ¬ q.2.1.getD 0 0 = 46 := fun h => hg0 ⟨hne, h⟩
          simp (maxSteps := 1000000) (disch := omega) only [h0, h5, h6, h7, hlt, len_vs hvs, hlen, iaddr_vs hvs, hc, faddrPV, List.drop_succ_cons, List.drop_zero, loadPV, readCells, len_by by_bys, hne', iaddr_by by_bys, hg1, hlit1, hlit2, freshT_eq, a2, a3, add_n, W_seq, W_region, W_cond, W_block, W_skip, W_label, W_exit, W_goto, W_ret, WO_cons, WO_consG, WO_nil, wantedA_eq, wantB, evOp, ev_tmp, ev_const, ev_fn, WN_some, WN_none, updO_some, updO_none, upd_eq,
 ↓reduceIte, Nat.reduceEqDiff, List.nil_append, List.cons_append, List.append_nil, List.map_cons, List.map_nil, env0_zero, env0_succ, env0_nil, Option.map_some, Option.map_none, seqQ_normal, seqQ_ret, seqQ_exit, seqQ_goto, blockQ_normal, blockQ_ret, blockQ_exit, blockQ_goto, condW_bool, loopQ_ret, loopQ_exit, loopQ_goto, endQ_ret, endQ_normal,
 lss_i, leq_i, gtr_i, geq_i, eql_i, neq_i, eql_8, neq_8, lss_8, leq_8, gtr_8, geq_8, eql_s, neq_s, eql_b, neq_b, not_b, by_bys, by_nils, load_cp1, beq_true, beq_false, Bool.not_eq_true', decide_eq_true_eq, decide_eq_false_iff_not, decide_true, decide_false,
 Int.toNat_natCast, Int.ofNat_lt, Int.ofNat_le, Int.natCast_inj, Bool.false_eq_true, Bool.true_eq_false, extPV, List.getElem?_cons_zero, List.getElem?_cons_succ, nilckPV, Int.reduceToNat, Int.reduceLE, true_and, and_true, reduceCtorEq, or_false, false_or, or_true, Option.some.injEq, exists_eq_left', Bool.not_true, Bool.not_false, ne_eq, Int.reduceEq, not_true_eq_false, not_false_eq_true, Int.reduceLT, UInt8.reduceLT, UInt8.reduceLE, UInt8.reduceToNat]
          refine loopQ_intro (m := (refLines l).length - (i + 1)) (by omega) ?_
          rw [hI]
          refine ⟨i + 1, w3, rfl, by omega, g3, ?_, h0, h5, rfl, rfl⟩
          rw [hgq]
          simpa [stuffLines, stuffLine, hd] using b3
        · have hne' : ¬ (0 : Int) < (q.2.1.length : Int) := by omega
          simp (maxSteps := 1000000) (disch := omega) only [h0, h5, h6, h7, hlt, len_vs hvs, hlen, iaddr_vs hvs, hc, faddrPV, List.drop_succ_cons, List.drop_zero, loadPV, readCells, len_by by_bys, hne', hlit1, hlit2, freshT_eq, a2, a3, add_n, W_seq, W_region, W_cond, W_block, W_skip, W_label, W_exit, W_goto, W_ret, WO_cons, WO_consG, WO_nil, wantedA_eq, wantB, evOp, ev_tmp, ev_const, ev_fn, WN_some, WN_none, updO_some, updO_none, upd_eq,
 ↓reduceIte, Nat.reduceEqDiff, List.nil_append, List.cons_append, List.append_nil, List.map_cons, List.map_nil, env0_zero, env0_succ, env0_nil, Option.map_some, Option.map_none, seqQ_normal, seqQ_ret, seqQ_exit, seqQ_goto, blockQ_normal, blockQ_ret, blockQ_exit, blockQ_goto, condW_bool, loopQ_ret, loopQ_exit, loopQ_goto, endQ_ret, endQ_normal,
 lss_i, leq_i, gtr_i, geq_i, eql_i, neq_i, eql_8, neq_8, lss_8, leq_8, gtr_8, geq_8, eql_s, neq_s, eql_b, neq_b, not_b, by_bys, by_nils, load_cp1, beq_true, beq_false, Bool.not_eq_true', decide_eq_true_eq, decide_eq_false_iff_not, decide_true, decide_false,
 Int.toNat_natCast, Int.ofNat_lt, Int.ofNat_le, Int.natCast_inj, Bool.false_eq_true, Bool.true_eq_false, extPV, List.getElem?_cons_zero, List.getElem?_cons_succ, nilckPV, Int.reduceToNat, Int.reduceLE, true_and, and_true, reduceCtorEq, or_false, false_or, or_true, Option.some.injEq, exists_eq_left', Bool.not_true, Bool.not_false, ne_eq, Int.reduceEq, not_true_eq_false, not_false_eq_true, Int.reduceLT, UInt8.reduceLT, UInt8.reduceLE, UInt8.reduceToNat]
          refine loopQ_intro (m := (refLines l).length - (i + 1)) (by omega) ?_
          rw [hI]
          refine ⟨i + 1, w3, rfl, by omega, g3, ?_, h0, h5, rfl, rfl⟩
          rw [hgq]
          simpa [stuffLines, stuffLine, hd] using b3
    · have hlit3 : lit8Fill (List.replicate 3 0) [(0, .b8 46), (1, .b8 13), (2, .b8 10)] = some [46, 13, 10] := rfl
      obtain ⟨w1, s1, a1, g1, b1⟩ := app8_any hg.tok1 ho.tok1 (y := .bys (.own s.toks.length) [46, 13, 10]) by_bys (by simp [room]; omega)
      simp (maxSteps := 1000000) (disch := omega) only [h0, h5, h6, h7, hlt, len_vs hvs, hlen, hlit3, freshT_eq, a1, W_seq, W_region, W_cond, W_block, W_skip, W_label, W_exit, W_goto, W_ret, WO_cons, WO_consG, WO_nil, wantedA_eq, wantB, evOp, ev_tmp, ev_const, ev_fn, WN_some, WN_none, updO_some, updO_none, upd_eq,
 ↓reduceIte, Nat.reduceEqDiff, List.nil_append, List.cons_append, List.append_nil, List.map_cons, List.map_nil, env0_zero, env0_succ, env0_nil, Option.map_some, Option.map_none, seqQ_normal, seqQ_ret, seqQ_exit, seqQ_goto, blockQ_normal, blockQ_ret, blockQ_exit, blockQ_goto, condW_bool, loopQ_ret, loopQ_exit, loopQ_goto, endQ_ret, endQ_normal,
 lss_i, leq_i, gtr_i, geq_i, eql_i, neq_i, eql_8, neq_8, lss_8, leq_8, gtr_8, geq_8, eql_s, neq_s, eql_b, neq_b, not_b, by_bys, by_nils, load_cp1, beq_true, beq_false, Bool.not_eq_true', decide_eq_true_eq, decide_eq_false_iff_not, decide_true, decide_false,
 Int.toNat_natCast, Int.ofNat_lt, Int.ofNat_le, Int.natCast_inj, Bool.false_eq_true, Bool.true_eq_false, extPV, List.getElem?_cons_zero, List.getElem?_cons_succ, nilckPV, Int.reduceToNat, Int.reduceLE, true_and, and_true, reduceCtorEq, or_false, false_or, or_true, Option.some.injEq, exists_eq_left', Bool.not_true, Bool.not_false, ne_eq, Int.reduceEq, not_true_eq_false, not_false_eq_true, Int.reduceLT, UInt8.reduceLT, UInt8.reduceLE, UInt8.reduceToNat]
      obtain rfl : i = (refLines l).length := by omega
      rw [List.take_length] at b1
      refine ⟨.tup [w1, .int .i64 0], ?_, leave_ownB2 g1 b1 (by simp [stuffOf])⟩
      simp [resOf, rvAll, rv1, upd_eq, by_notTup b1.by, packRes, show notTup (PV.int .i64 0) = true from rfl]
  · rw [if_pos (by simpa using hr)]
    refine call_of_W prog_4 ?_
    unfold F_posthornref05_Stuff; dsimp only
    have hst : ∀ a b ts ls lo, storePV ⟨st.boxes ++ [[.int .i64 0, .int .i64 0]], ts, ls, lo⟩ 2 (.ptr st.boxes.length 0) (fV (a, b)) =
        some ⟨st.boxes ++ [[.int .i64 a, .int .i64 b]], ts, ls, lo⟩ := fun a b ts ls lo => by
      simp [storePV, fV, PV.cells, PV.inB, PV.inB.inBAll, setCells, hasTok, tokOf, leafOk]
    have hld : ∀ a b ts ls lo, loadPV ⟨st.boxes ++ [[.int .i64 a, .int .i64 b]], ts, ls, lo⟩ false 1 (.ptr st.boxes.length 1) = some (.int .i64 b) := fun a b ts ls lo => by
      simp [loadPV, readCells]
    have hrf : fV (rightOf l) = fV ((rightOf l).1, (rightOf l).2) := rfl
    simp (maxSteps := 1000000) (disch := omega) only [allocPV, rRight_spec hx hl, hrf, hst, hld, faddrPV, Nat.zero_add, hr, W_seq, W_region, W_cond, W_block, W_skip, W_label, W_exit, W_goto, W_ret, WO_cons, WO_consG, WO_nil, wantedA_eq, wantB, evOp, ev_tmp, ev_const, ev_fn, WN_some, WN_none, updO_some, updO_none, upd_eq,
 ↓reduceIte, Nat.reduceEqDiff, List.nil_append, List.cons_append, List.append_nil, List.map_cons, List.map_nil, env0_zero, env0_succ, env0_nil, Option.map_some, Option.map_none, seqQ_normal, seqQ_ret, seqQ_exit, seqQ_goto, blockQ_normal, blockQ_ret, blockQ_exit, blockQ_goto, condW_bool, loopQ_ret, loopQ_exit, loopQ_goto, endQ_ret, endQ_normal,
 lss_i, leq_i, gtr_i, geq_i, eql_i, neq_i, eql_8, neq_8, lss_8, leq_8, gtr_8, geq_8, eql_s, neq_s, eql_b, neq_b, not_b, by_bys, by_nils, load_cp1, beq_true, beq_false, Bool.not_eq_true', decide_eq_true_eq, decide_eq_false_iff_not, decide_true, decide_false,
 Int.toNat_natCast, Int.ofNat_lt, Int.ofNat_le, Int.natCast_inj, Bool.false_eq_true, Bool.true_eq_false, extPV, List.getElem?_cons_zero, List.getElem?_cons_succ, nilckPV, Int.reduceToNat, Int.reduceLE, true_and, and_true, reduceCtorEq, or_false, false_or, or_true, Option.some.injEq, exists_eq_left', Bool.not_true, Bool.not_false, ne_eq, Int.reduceEq, not_true_eq_false, not_false_eq_true, Int.reduceLT, UInt8.reduceLT, UInt8.reduceLE, UInt8.reduceToNat]
    refine ⟨.tup [.nils, .int .i64 (rightOf l).2], ?_, leave_gone0 rfl rfl⟩
    simp [resOf, rvAll, rv1, upd_eq, notTup, packRes]
end Go.Ab
