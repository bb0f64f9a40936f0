/-
  The abstract code of functions, printed by program (abgen.py, abput.py).
-/
import Derived.Test.YtemnjmphkmokmaaAbCore
namespace Go.Ab

/-- posthorn/posthornlaw05.alive -/
def F_posthornlaw05_alive : ACFn := { nt := 53, results := [.tmp 0], body := (
  .seq (
    .region [
      ⟨some 0, .mov (.const (.bool false)), none⟩]) (
    .seq (
      .region [
        ⟨some 11, .lit8 4 [(0, (.const (.b8 46))), (1, (.const (.b8 97))), (2, (.const (.b8 13))), (3, (.const (.b8 10)))], none⟩,
        ⟨some 12, .cSame (.tmp 11), none⟩,
        ⟨some 13, .call (.fn 3) [(.tmp 12)], none⟩,
        ⟨some 10, .mov (.tmp 13), none⟩,
        ⟨some 14, .ext 0 (.tmp 10), none⟩,
        ⟨some 15, .ext 1 (.tmp 10), none⟩,
        ⟨some 1, .mov (.tmp 14), none⟩,
        ⟨some 2, .mov (.tmp 15), none⟩]) (
      .seq (
        .region [
          ⟨some 16, .call (.fn 15) [(.const (.int .i64 10))], none⟩,
          ⟨some 3, .mov (.tmp 16), none⟩]) (
        .seq (
          .region [
            ⟨some 18, .mov (.tmp 3), none⟩,
            ⟨some 19, .lit8 4 [(0, (.const (.b8 46))), (1, (.const (.b8 13))), (2, (.const (.b8 10))), (3, (.const (.b8 120)))], none⟩,
            ⟨some 20, .cSame (.tmp 19), none⟩,
            ⟨some 21, .call (.fn 10) [(.tmp 18), (.tmp 20)], none⟩,
            ⟨some 17, .mov (.tmp 21), none⟩,
            ⟨some 22, .ext 0 (.tmp 17), none⟩,
            ⟨some 23, .ext 1 (.tmp 17), none⟩,
            ⟨some 24, .ext 2 (.tmp 17), none⟩,
            ⟨some 4, .mov (.tmp 22), none⟩,
            ⟨some 5, .mov (.tmp 23), none⟩,
            ⟨some 6, .mov (.tmp 24), none⟩]) (
          .seq (
            .region [
              ⟨some 26, .mov (.tmp 3), none⟩,
              ⟨some 27, .call (.fn 10) [(.tmp 26), (.const (.nils))], none⟩,
              ⟨some 25, .mov (.tmp 27), none⟩,
              ⟨some 28, .ext 0 (.tmp 25), none⟩,
              ⟨some 29, .ext 1 (.tmp 25), none⟩,
              ⟨some 30, .ext 2 (.tmp 25), none⟩,
              ⟨some 7, .mov (.tmp 28), none⟩,
              ⟨some 8, .mov (.tmp 29), none⟩,
              ⟨some 9, .mov (.tmp 30), none⟩]) (
            .seq (
              .region [
                ⟨some 31, .mov (.tmp 1), none⟩,
                ⟨some 32, .cB2S false (.tmp 31), none⟩,
                ⟨some 33, .bin .eql .no (.tmp 32) (.const (.str [46, 46, 97, 13, 10, 46, 13, 10])), none⟩,
                ⟨some 34, .mov (.tmp 33), none⟩,
                ⟨some 35, .mov (.tmp 2), some (34, true)⟩,
                ⟨some 36, .bin .eql .no (.tmp 35) (.const (.int .i64 0)), some (34, true)⟩,
                ⟨some 37, .pick (.tmp 34) (.tmp 36) (.const (.bool false)), none⟩,
                ⟨some 38, .mov (.tmp 37), none⟩,
                ⟨some 39, .mov (.tmp 4), some (38, true)⟩,
                ⟨some 40, .bin .eql .no (.tmp 39) (.const (.int .i64 3)), some (38, true)⟩,
                ⟨some 41, .pick (.tmp 38) (.tmp 40) (.const (.bool false)), none⟩,
                ⟨some 42, .mov (.tmp 41), none⟩,
                ⟨some 43, .mov (.tmp 5), some (42, true)⟩,
                ⟨some 44, .pick (.tmp 42) (.tmp 43) (.const (.bool false)), none⟩,
                ⟨some 45, .mov (.tmp 44), none⟩,
                ⟨some 46, .mov (.tmp 6), some (45, true)⟩,
                ⟨some 47, .bin .eql .no (.tmp 46) (.const (.int .i64 0)), some (45, true)⟩,
                ⟨some 48, .pick (.tmp 45) (.tmp 47) (.const (.bool false)), none⟩,
                ⟨some 49, .mov (.tmp 48), none⟩,
                ⟨some 50, .mov (.tmp 9), some (49, true)⟩,
                ⟨some 51, .bin .eql .no (.tmp 50) (.const (.int .i64 7)), some (49, true)⟩,
                ⟨some 52, .pick (.tmp 49) (.tmp 51) (.const (.bool false)), none⟩,
                ⟨some 0, .mov (.tmp 52), none⟩]) (
              .ret))))))) }

/-- posthorn/dots.Stuff -/
def F_dots_Stuff : ACFn := { nt := 31, results := [.tmp 2, .tmp 3], body := (
  .seq (
    .region [
      ⟨some 2, .mov (.const (.nils)), none⟩,
      ⟨some 3, .mov (.const (.int .i64 0)), none⟩]) (
    .seq (
      .seq (
        .region [
          ⟨some 8, .mov (.tmp 0), none⟩,
          ⟨some 9, .call (.fn 5) [(.tmp 8)], none⟩,
          ⟨some 4, .alloc [.int .i64 0, .int .i64 0], none⟩,
          ⟨none, .store 2 (.tmp 4) (.tmp 9), none⟩]) (
        .seq (
          .region [
            ⟨some 10, .faddr 1 (.tmp 4), none⟩,
            ⟨some 11, .load false 1 (.tmp 10), none⟩,
            ⟨some 12, .bin .neq .no (.tmp 11) (.const (.int .i64 0)), none⟩]) (
          .cond (.tmp 12) (
            .seq (
              .region [
                ⟨some 13, .faddr 1 (.tmp 4), none⟩,
                ⟨some 14, .load false 1 (.tmp 13), none⟩,
                ⟨some 2, .mov (.const (.nils)), none⟩,
                ⟨some 3, .mov (.tmp 14), none⟩]) (
              .ret)) (
            .skip)))) (
      .seq (
        .region [
          ⟨some 5, .alloc [.nils], none⟩]) (
        .seq (
          .seq (
            .region [
              ⟨some 15, .mov (.tmp 0), none⟩,
              ⟨some 16, .call (.fn 18) [(.tmp 15)], none⟩]) (
            .block 0 (
              .rangeFunc (.tmp 16) [17, 18] (
                .region [
                  ⟨some 7, .mov (.tmp 18), none⟩]) (
                .block 1 (
                  .seq (
                    .seq (
                      .region [
                        ⟨some 19, .mov (.tmp 7), none⟩,
                        ⟨some 20, .iaddr 1 (.tmp 19) (.const (.int .i64 0)), none⟩,
                        ⟨some 21, .load false 1 (.tmp 20), none⟩,
                        ⟨some 22, .bin .eql .no (.tmp 21) (.const (.b8 46)), none⟩]) (
                      .cond (.tmp 22) (
                        .region [
                          ⟨some 23, .load false 1 (.tmp 5), none⟩,
                          ⟨some 24, .lit8 1 [(0, (.const (.b8 46)))], none⟩,
                          ⟨some 25, .app true 1 (.tmp 23) (.tmp 24), none⟩,
                          ⟨none, .store 1 (.tmp 5) (.tmp 25), none⟩]) (
                        .skip))) (
                    .region [
                      ⟨some 26, .load false 1 (.tmp 5), none⟩,
                      ⟨some 27, .mov (.tmp 7), none⟩,
                      ⟨some 28, .app true 1 (.tmp 26) (.tmp 27), none⟩,
                      ⟨none, .store 1 (.tmp 5) (.tmp 28), none⟩])))))) (
          .seq (
            .region [
              ⟨some 29, .load false 1 (.tmp 5), none⟩,
              ⟨some 30, .app true 1 (.tmp 29) (.const (.str [46, 13, 10])), none⟩,
              ⟨some 2, .mov (.tmp 30), none⟩,
              ⟨some 3, .mov (.const (.int .i64 0)), none⟩]) (
            .ret)))))) }

/-- posthorn/posthornref05.Stuff -/
def F_posthornref05_Stuff : ACFn := { nt := 56, results := [.tmp 2, .tmp 3], body := (
  .seq (
    .region [
      ⟨some 2, .mov (.const (.nils)), none⟩,
      ⟨some 3, .mov (.const (.int .i64 0)), none⟩]) (
    .seq (
      .region [
        ⟨some 8, .mov (.tmp 0), none⟩,
        ⟨some 9, .call (.fn 6) [(.tmp 8)], none⟩,
        ⟨some 4, .alloc [.int .i64 0, .int .i64 0], none⟩,
        ⟨none, .store 2 (.tmp 4) (.tmp 9), none⟩]) (
      .seq (
        .seq (
          .region [
            ⟨some 10, .faddr 1 (.tmp 4), none⟩,
            ⟨some 11, .load false 1 (.tmp 10), none⟩,
            ⟨some 12, .bin .neq .no (.tmp 11) (.const (.int .i64 0)), none⟩]) (
          .cond (.tmp 12) (
            .seq (
              .region [
                ⟨some 13, .faddr 1 (.tmp 4), none⟩,
                ⟨some 14, .load false 1 (.tmp 13), none⟩,
                ⟨some 2, .mov (.const (.nils)), none⟩,
                ⟨some 3, .mov (.tmp 14), none⟩]) (
              .ret)) (
            .skip))) (
        .seq (
          .region [
            ⟨some 15, .mov (.tmp 0), none⟩,
            ⟨some 16, .call (.fn 8) [(.tmp 15)], none⟩,
            ⟨some 5, .mov (.tmp 16), none⟩]) (
          .seq (
            .region [
              ⟨some 6, .mov (.const (.nils)), none⟩]) (
            .seq (
              .seq (
                .region [
                  ⟨some 7, .mov (.const (.int .i64 0)), none⟩]) (
                .block 0 (
                  .loop (
                    .seq (
                      .seq (
                        .region [
                          ⟨some 17, .mov (.tmp 7), none⟩,
                          ⟨some 18, .mov (.tmp 5), none⟩,
                          ⟨some 19, .len false (.tmp 18), none⟩,
                          ⟨some 20, .bin .lss .no (.tmp 17) (.tmp 19), none⟩]) (
                        .cond (.tmp 20) (
                          .skip) (
                          .exit 0))) (
                      .seq (
                        .block 1 (
                          .seq (
                            .seq (
                              .region [
                                ⟨some 23, .mov (.tmp 5), none⟩,
                                ⟨some 24, .mov (.tmp 7), none⟩,
                                ⟨some 25, .iaddr 3 (.tmp 23) (.tmp 24), none⟩,
                                ⟨some 26, .faddr 1 (.tmp 25), none⟩,
                                ⟨some 27, .load false 1 (.tmp 26), none⟩,
                                ⟨some 28, .len false (.tmp 27), none⟩,
                                ⟨some 29, .bin .gtr .no (.tmp 28) (.const (.int .i64 0)), none⟩,
                                ⟨some 30, .mov (.tmp 29), none⟩,
                                ⟨some 31, .mov (.tmp 5), some (30, true)⟩,
                                ⟨some 32, .mov (.tmp 7), some (30, true)⟩,
                                ⟨some 33, .iaddr 3 (.tmp 31) (.tmp 32), some (30, true)⟩,
                                ⟨some 34, .faddr 1 (.tmp 33), some (30, true)⟩,
                                ⟨some 35, .load false 1 (.tmp 34), some (30, true)⟩,
                                ⟨some 36, .iaddr 1 (.tmp 35) (.const (.int .i64 0)), some (30, true)⟩,
                                ⟨some 37, .load false 1 (.tmp 36), some (30, true)⟩,
                                ⟨some 38, .bin .eql .no (.tmp 37) (.const (.b8 46)), some (30, true)⟩,
                                ⟨some 39, .pick (.tmp 30) (.tmp 38) (.const (.bool false)), none⟩]) (
                              .cond (.tmp 39) (
                                .region [
                                  ⟨some 40, .mov (.tmp 6), none⟩,
                                  ⟨some 41, .lit8 1 [(0, (.const (.b8 46)))], none⟩,
                                  ⟨some 42, .app true 1 (.tmp 40) (.tmp 41), none⟩,
                                  ⟨some 6, .mov (.tmp 42), none⟩]) (
                                .skip))) (
                            .seq (
                              .region [
                                ⟨some 43, .mov (.tmp 6), none⟩,
                                ⟨some 44, .mov (.tmp 5), none⟩,
                                ⟨some 45, .mov (.tmp 7), none⟩,
                                ⟨some 46, .iaddr 3 (.tmp 44) (.tmp 45), none⟩,
                                ⟨some 47, .faddr 1 (.tmp 46), none⟩,
                                ⟨some 48, .load false 1 (.tmp 47), none⟩,
                                ⟨some 49, .app true 1 (.tmp 43) (.tmp 48), none⟩,
                                ⟨some 6, .mov (.tmp 49), none⟩]) (
                              .region [
                                ⟨some 50, .mov (.tmp 6), none⟩,
                                ⟨some 51, .lit8 2 [(0, (.const (.b8 13))), (1, (.const (.b8 10)))], none⟩,
                                ⟨some 52, .app true 1 (.tmp 50) (.tmp 51), none⟩,
                                ⟨some 6, .mov (.tmp 52), none⟩])))) (
                        .region [
                          ⟨some 21, .mov (.tmp 7), none⟩,
                          ⟨some 22, .bin .add .no (.tmp 21) (.const (.int .i64 1)), none⟩,
                          ⟨some 7, .mov (.tmp 22), none⟩])))))) (
              .seq (
                .region [
                  ⟨some 53, .mov (.tmp 6), none⟩,
                  ⟨some 54, .lit8 3 [(0, (.const (.b8 46))), (1, (.const (.b8 13))), (2, (.const (.b8 10)))], none⟩,
                  ⟨some 55, .app true 1 (.tmp 53) (.tmp 54), none⟩,
                  ⟨some 2, .mov (.tmp 55), none⟩,
                  ⟨some 3, .mov (.const (.int .i64 0)), none⟩]) (
                .ret)))))))) }

/-- posthorn/dots.Right -/
def F_dots_Right : ACFn := { nt := 45, results := [.cell 2 true 2], body := (
  .seq (
    .region [
      ⟨some 1, .box (.tmp 0), none⟩,
      ⟨some 2, .alloc [.int .i64 0, .int .i64 0], none⟩]) (
    .scope (
      .seq (
        .region [
          ⟨some 3, .alloc [.int .i64 0, .int .i64 0], none⟩]) (
        .seq (
          .label 0) (
          .seq (
            .seq (
              .region [
                ⟨some 9, .load false 1 (.tmp 1), none⟩,
                ⟨some 10, .call (.fn 18) [(.tmp 9)], none⟩]) (
              .block 0 (
                .rangeFunc (.tmp 10) [11, 12] (
                  .seq (
                    .region [
                      ⟨some 4, .mov (.tmp 11), none⟩]) (
                    .region [
                      ⟨some 5, .mov (.tmp 12), none⟩])) (
                  .block 1 (
                    .seq (
                      .region [
                        ⟨some 14, .mov (.tmp 5), none⟩,
                        ⟨some 15, .lit8 2 [(0, (.const (.b8 13))), (1, (.const (.b8 10)))], none⟩,
                        ⟨some 16, .cSame (.tmp 15), none⟩,
                        ⟨some 17, .call (.fn 19) [(.tmp 14), (.tmp 16)], none⟩,
                        ⟨some 13, .mov (.tmp 17), none⟩,
                        ⟨some 18, .ext 0 (.tmp 13), none⟩,
                        ⟨some 19, .ext 1 (.tmp 13), none⟩,
                        ⟨some 6, .mov (.tmp 18), none⟩,
                        ⟨some 7, .mov (.tmp 19), none⟩]) (
                      .seq (
                        .region [
                          ⟨some 20, .mov (.tmp 6), none⟩,
                          ⟨some 21, .call (.fn 20) [(.tmp 20)], none⟩,
                          ⟨some 8, .mov (.tmp 21), none⟩]) (
                        .seq (
                          .block 2 (
                            .seq (
                              .region [
                                ⟨some 23, .mov (.tmp 8), none⟩,
                                ⟨some 24, .bin .geq .no (.tmp 23) (.const (.int .i64 0)), none⟩,
                                ⟨some 22, .mov (.tmp 24), none⟩]) (
                              .cond (.tmp 22) (
                                .region [
                                  ⟨some 25, .mov (.tmp 4), none⟩,
                                  ⟨some 26, .mov (.tmp 8), none⟩,
                                  ⟨some 27, .bin .add .no (.tmp 25) (.tmp 26), none⟩,
                                  ⟨some 28, .build [.int .i64 0, .int .i64 0] [(0, 1, (.tmp 27)), (1, 1, (.const (.int .i64 41)))], none⟩,
                                  ⟨none, .store 2 (.tmp 3) (.tmp 28), none⟩]) (
                                .seq (
                                  .region [
                                    ⟨some 30, .mov (.tmp 6), none⟩,
                                    ⟨some 31, .len false (.tmp 30), none⟩,
                                    ⟨some 32, .bin .gtr .no (.tmp 31) (.const (.int .i64 998)), none⟩,
                                    ⟨some 29, .mov (.tmp 32), none⟩]) (
                                  .cond (.tmp 29) (
                                    .region [
                                      ⟨some 33, .mov (.tmp 4), none⟩,
                                      ⟨some 34, .build [.int .i64 0, .int .i64 0] [(0, 1, (.tmp 33)), (1, 1, (.const (.int .i64 40)))], none⟩,
                                      ⟨none, .store 2 (.tmp 3) (.tmp 34), none⟩]) (
                                    .seq (
                                      .region [
                                        ⟨some 36, .mov (.tmp 7), none⟩,
                                        ⟨some 37, .un .not (.tmp 36), none⟩,
                                        ⟨some 35, .mov (.tmp 37), none⟩]) (
                                      .cond (.tmp 35) (
                                        .region [
                                          ⟨some 38, .load false 1 (.tmp 1), none⟩,
                                          ⟨some 39, .len false (.tmp 38), none⟩,
                                          ⟨some 40, .build [.int .i64 0, .int .i64 0] [(0, 1, (.tmp 39)), (1, 1, (.const (.int .i64 42)))], none⟩,
                                          ⟨none, .store 2 (.tmp 3) (.tmp 40), none⟩]) (
                                        .skip)))))))) (
                          .seq (
                            .region [
                              ⟨some 41, .faddr 1 (.tmp 3), none⟩,
                              ⟨some 42, .load false 1 (.tmp 41), none⟩,
                              ⟨some 43, .bin .neq .no (.tmp 42) (.const (.int .i64 0)), none⟩]) (
                            .cond (.tmp 43) (
                              .exit 0) (
                              .skip)))))))))) (
            .seq (
              .region [
                ⟨some 44, .load true 2 (.tmp 3), none⟩,
                ⟨none, .store 2 (.tmp 2) (.tmp 44), none⟩]) (
              .ret))))))) }

/-- posthorn/posthornref05.Right -/
def F_posthornref05_Right : ACFn := { nt := 53, results := [.cell 2 true 2], body := (
  .seq (
    .region [
      ⟨some 2, .alloc [.int .i64 0, .int .i64 0], none⟩]) (
    .seq (
      .region [
        ⟨some 6, .mov (.tmp 0), none⟩,
        ⟨some 7, .call (.fn 8) [(.tmp 6)], none⟩,
        ⟨some 3, .mov (.tmp 7), none⟩]) (
      .seq (
        .seq (
          .region [
            ⟨some 4, .mov (.const (.int .i64 0)), none⟩]) (
          .block 0 (
            .loop (
              .seq (
                .seq (
                  .region [
                    ⟨some 8, .mov (.tmp 4), none⟩,
                    ⟨some 9, .mov (.tmp 3), none⟩,
                    ⟨some 10, .len false (.tmp 9), none⟩,
                    ⟨some 11, .bin .lss .no (.tmp 8) (.tmp 10), none⟩]) (
                  .cond (.tmp 11) (
                    .skip) (
                    .exit 0))) (
                .seq (
                  .block 1 (
                    .seq (
                      .region [
                        ⟨some 14, .mov (.tmp 3), none⟩,
                        ⟨some 15, .mov (.tmp 4), none⟩,
                        ⟨some 16, .iaddr 3 (.tmp 14) (.tmp 15), none⟩,
                        ⟨some 17, .faddr 1 (.tmp 16), none⟩,
                        ⟨some 18, .load false 1 (.tmp 17), none⟩,
                        ⟨some 19, .call (.fn 21) [(.tmp 18)], none⟩,
                        ⟨some 5, .mov (.tmp 19), none⟩]) (
                      .seq (
                        .seq (
                          .region [
                            ⟨some 20, .mov (.tmp 5), none⟩,
                            ⟨some 21, .bin .geq .no (.tmp 20) (.const (.int .i64 0)), none⟩]) (
                          .cond (.tmp 21) (
                            .seq (
                              .region [
                                ⟨some 22, .mov (.tmp 3), none⟩,
                                ⟨some 23, .mov (.tmp 4), none⟩,
                                ⟨some 24, .iaddr 3 (.tmp 22) (.tmp 23), none⟩,
                                ⟨some 25, .faddr 0 (.tmp 24), none⟩,
                                ⟨some 26, .load false 1 (.tmp 25), none⟩,
                                ⟨some 27, .mov (.tmp 5), none⟩,
                                ⟨some 28, .bin .add .no (.tmp 26) (.tmp 27), none⟩,
                                ⟨some 29, .build [.int .i64 0, .int .i64 0] [(0, 1, (.tmp 28)), (1, 1, (.const (.int .i64 41)))], none⟩,
                                ⟨none, .store 2 (.tmp 2) (.tmp 29), none⟩]) (
                              .ret)) (
                            .skip))) (
                        .seq (
                          .seq (
                            .region [
                              ⟨some 30, .mov (.tmp 3), none⟩,
                              ⟨some 31, .mov (.tmp 4), none⟩,
                              ⟨some 32, .iaddr 3 (.tmp 30) (.tmp 31), none⟩,
                              ⟨some 33, .faddr 1 (.tmp 32), none⟩,
                              ⟨some 34, .load false 1 (.tmp 33), none⟩,
                              ⟨some 35, .len false (.tmp 34), none⟩,
                              ⟨some 36, .bin .gtr .no (.tmp 35) (.const (.int .i64 998)), none⟩]) (
                            .cond (.tmp 36) (
                              .seq (
                                .region [
                                  ⟨some 37, .mov (.tmp 3), none⟩,
                                  ⟨some 38, .mov (.tmp 4), none⟩,
                                  ⟨some 39, .iaddr 3 (.tmp 37) (.tmp 38), none⟩,
                                  ⟨some 40, .faddr 0 (.tmp 39), none⟩,
                                  ⟨some 41, .load false 1 (.tmp 40), none⟩,
                                  ⟨some 42, .build [.int .i64 0, .int .i64 0] [(0, 1, (.tmp 41)), (1, 1, (.const (.int .i64 40)))], none⟩,
                                  ⟨none, .store 2 (.tmp 2) (.tmp 42), none⟩]) (
                                .ret)) (
                              .skip))) (
                          .seq (
                            .region [
                              ⟨some 43, .mov (.tmp 3), none⟩,
                              ⟨some 44, .mov (.tmp 4), none⟩,
                              ⟨some 45, .iaddr 3 (.tmp 43) (.tmp 44), none⟩,
                              ⟨some 46, .faddr 2 (.tmp 45), none⟩,
                              ⟨some 47, .load false 1 (.tmp 46), none⟩,
                              ⟨some 48, .un .not (.tmp 47), none⟩]) (
                            .cond (.tmp 48) (
                              .seq (
                                .region [
                                  ⟨some 49, .mov (.tmp 0), none⟩,
                                  ⟨some 50, .len false (.tmp 49), none⟩,
                                  ⟨some 51, .build [.int .i64 0, .int .i64 0] [(0, 1, (.tmp 50)), (1, 1, (.const (.int .i64 42)))], none⟩,
                                  ⟨none, .store 2 (.tmp 2) (.tmp 51), none⟩]) (
                                .ret)) (
                              .skip))))))) (
                  .region [
                    ⟨some 12, .mov (.tmp 4), none⟩,
                    ⟨some 13, .bin .add .no (.tmp 12) (.const (.int .i64 1)), none⟩,
                    ⟨some 4, .mov (.tmp 13), none⟩])))))) (
        .seq (
          .region [
            ⟨some 52, .build [.int .i64 0, .int .i64 0] [], none⟩,
            ⟨none, .store 2 (.tmp 2) (.tmp 52), none⟩]) (
          .ret))))) }

/-- posthorn/posthornlaw05.DotsStuffs -/
def F_posthornlaw05_DotsStuffs : ACFn := { nt := 41, results := [.tmp 2], body := (
  .seq (
    .region [
      ⟨some 2, .mov (.const (.bool false)), none⟩]) (
    .seq (
      .seq (
        .region [
          ⟨some 7, .mov (.tmp 0), none⟩,
          ⟨some 8, .len false (.tmp 7), none⟩,
          ⟨some 9, .bin .gtr .no (.tmp 8) (.const (.int .i64 4000)), none⟩]) (
        .cond (.tmp 9) (
          .seq (
            .region [
              ⟨some 10, .call (.fn 2) [], none⟩,
              ⟨some 2, .mov (.tmp 10), none⟩]) (
            .ret)) (
          .skip))) (
      .seq (
        .region [
          ⟨some 12, .mov (.tmp 0), none⟩,
          ⟨some 13, .call (.fn 3) [(.tmp 12)], none⟩,
          ⟨some 11, .mov (.tmp 13), none⟩,
          ⟨some 14, .ext 0 (.tmp 11), none⟩,
          ⟨some 15, .ext 1 (.tmp 11), none⟩,
          ⟨some 3, .mov (.tmp 14), none⟩,
          ⟨some 4, .mov (.tmp 15), none⟩]) (
        .seq (
          .region [
            ⟨some 17, .mov (.tmp 0), none⟩,
            ⟨some 18, .call (.fn 4) [(.tmp 17)], none⟩,
            ⟨some 16, .mov (.tmp 18), none⟩,
            ⟨some 19, .ext 0 (.tmp 16), none⟩,
            ⟨some 20, .ext 1 (.tmp 16), none⟩,
            ⟨some 5, .mov (.tmp 19), none⟩,
            ⟨some 6, .mov (.tmp 20), none⟩]) (
          .seq (
            .region [
              ⟨some 21, .call (.fn 2) [], none⟩,
              ⟨some 22, .mov (.tmp 21), none⟩,
              ⟨some 23, .mov (.tmp 0), some (22, true)⟩,
              ⟨some 24, .call (.fn 5) [(.tmp 23)], some (22, true)⟩,
              ⟨some 25, .mov (.tmp 0), some (22, true)⟩,
              ⟨some 26, .call (.fn 6) [(.tmp 25)], some (22, true)⟩,
              ⟨some 27, .bin .eql (.struct [.i, .i]) (.tmp 24) (.tmp 26), some (22, true)⟩,
              ⟨some 28, .pick (.tmp 22) (.tmp 27) (.const (.bool false)), none⟩,
              ⟨some 29, .mov (.tmp 28), none⟩,
              ⟨some 30, .mov (.tmp 3), some (29, true)⟩,
              ⟨some 31, .cB2S false (.tmp 30), some (29, true)⟩,
              ⟨some 32, .mov (.tmp 5), some (29, true)⟩,
              ⟨some 33, .cB2S false (.tmp 32), some (29, true)⟩,
              ⟨some 34, .bin .eql .no (.tmp 31) (.tmp 33), some (29, true)⟩,
              ⟨some 35, .pick (.tmp 29) (.tmp 34) (.const (.bool false)), none⟩,
              ⟨some 36, .mov (.tmp 35), none⟩,
              ⟨some 37, .mov (.tmp 4), some (36, true)⟩,
              ⟨some 38, .mov (.tmp 6), some (36, true)⟩,
              ⟨some 39, .bin .eql .no (.tmp 37) (.tmp 38), some (36, true)⟩,
              ⟨some 40, .pick (.tmp 36) (.tmp 39) (.const (.bool false)), none⟩,
              ⟨some 2, .mov (.tmp 40), none⟩]) (
            .ret)))))) }

/-- posthorn/posthornref05.Lines -/
def F_posthornref05_Lines : ACFn := { nt := 41, results := [.tmp 2], body := (
  .seq (
    .region [
      ⟨some 2, .mov (.const (.nils)), none⟩]) (
    .seq (
      .region [
        ⟨some 3, .mov (.const (.nils)), none⟩]) (
      .seq (
        .region [
          ⟨some 4, .mov (.const (.int .i64 0)), none⟩]) (
        .seq (
          .seq (
            .region [
              ⟨some 5, .mov (.const (.int .i64 0)), none⟩]) (
            .block 0 (
              .loop (
                .seq (
                  .seq (
                    .region [
                      ⟨some 6, .mov (.tmp 5), none⟩,
                      ⟨some 7, .mov (.tmp 0), none⟩,
                      ⟨some 8, .len false (.tmp 7), none⟩,
                      ⟨some 9, .bin .lss .no (.tmp 6) (.tmp 8), none⟩]) (
                    .cond (.tmp 9) (
                      .skip) (
                      .exit 0))) (
                  .seq (
                    .block 1 (
                      .seq (
                        .region [
                          ⟨some 12, .mov (.tmp 0), none⟩,
                          ⟨some 13, .mov (.tmp 5), none⟩,
                          ⟨some 14, .call (.fn 22) [(.tmp 12), (.tmp 13)], none⟩]) (
                        .cond (.tmp 14) (
                          .seq (
                            .region [
                              ⟨some 15, .mov (.tmp 3), none⟩,
                              ⟨some 16, .mov (.tmp 4), none⟩,
                              ⟨some 17, .mov (.tmp 0), none⟩,
                              ⟨some 18, .mov (.tmp 4), none⟩,
                              ⟨some 19, .mov (.tmp 5), none⟩,
                              ⟨some 20, .slc 1 (.tmp 17) (some (.tmp 18)) (some (.tmp 19)) none, none⟩,
                              ⟨some 21, .build [.int .i64 0, .nils, .bool false] [(0, 1, (.tmp 16)), (1, 1, (.tmp 20)), (2, 1, (.const (.bool true)))], none⟩,
                              ⟨some 22, .lit 3 (.agg [.int .i64 0, .nils, .bool false]) 1 [(0, (.tmp 21))], none⟩,
                              ⟨some 23, .app false 3 (.tmp 15) (.tmp 22), none⟩,
                              ⟨some 3, .mov (.tmp 23), none⟩]) (
                            .seq (
                              .region [
                                ⟨some 24, .mov (.tmp 5), none⟩,
                                ⟨some 25, .bin .add .no (.tmp 24) (.const (.int .i64 1)), none⟩,
                                ⟨some 5, .mov (.tmp 25), none⟩]) (
                              .region [
                                ⟨some 26, .mov (.tmp 5), none⟩,
                                ⟨some 27, .bin .add .no (.tmp 26) (.const (.int .i64 1)), none⟩,
                                ⟨some 4, .mov (.tmp 27), none⟩]))) (
                          .skip)))) (
                    .region [
                      ⟨some 10, .mov (.tmp 5), none⟩,
                      ⟨some 11, .bin .add .no (.tmp 10) (.const (.int .i64 1)), none⟩,
                      ⟨some 5, .mov (.tmp 11), none⟩])))))) (
          .seq (
            .seq (
              .region [
                ⟨some 28, .mov (.tmp 4), none⟩,
                ⟨some 29, .mov (.tmp 0), none⟩,
                ⟨some 30, .len false (.tmp 29), none⟩,
                ⟨some 31, .bin .lss .no (.tmp 28) (.tmp 30), none⟩]) (
              .cond (.tmp 31) (
                .region [
                  ⟨some 32, .mov (.tmp 3), none⟩,
                  ⟨some 33, .mov (.tmp 4), none⟩,
                  ⟨some 34, .mov (.tmp 0), none⟩,
                  ⟨some 35, .mov (.tmp 4), none⟩,
                  ⟨some 36, .slc 1 (.tmp 34) (some (.tmp 35)) none none, none⟩,
                  ⟨some 37, .build [.int .i64 0, .nils, .bool false] [(0, 1, (.tmp 33)), (1, 1, (.tmp 36)), (2, 1, (.const (.bool false)))], none⟩,
                  ⟨some 38, .lit 3 (.agg [.int .i64 0, .nils, .bool false]) 1 [(0, (.tmp 37))], none⟩,
                  ⟨some 39, .app false 3 (.tmp 32) (.tmp 38), none⟩,
                  ⟨some 3, .mov (.tmp 39), none⟩]) (
                .skip))) (
            .seq (
              .region [
                ⟨some 40, .mov (.tmp 3), none⟩,
                ⟨some 2, .mov (.tmp 40), none⟩]) (
              .ret))))))) }

/-- posthorn/posthornlaw05.DotsAlone -/
def F_posthornlaw05_DotsAlone : ACFn := { nt := 88, results := [.tmp 2], body := (
  .seq (
    .region [
      ⟨some 2, .mov (.const (.bool false)), none⟩]) (
    .seq (
      .seq (
        .region [
          ⟨some 10, .mov (.tmp 0), none⟩,
          ⟨some 11, .len false (.tmp 10), none⟩,
          ⟨some 12, .bin .gtr .no (.tmp 11) (.const (.int .i64 4000)), none⟩]) (
        .cond (.tmp 12) (
          .seq (
            .region [
              ⟨some 13, .call (.fn 2) [], none⟩,
              ⟨some 2, .mov (.tmp 13), none⟩]) (
            .ret)) (
          .skip))) (
      .seq (
        .region [
          ⟨some 15, .mov (.tmp 0), none⟩,
          ⟨some 16, .call (.fn 3) [(.tmp 15)], none⟩,
          ⟨some 14, .mov (.tmp 16), none⟩,
          ⟨some 17, .ext 0 (.tmp 14), none⟩,
          ⟨some 18, .ext 1 (.tmp 14), none⟩,
          ⟨some 3, .mov (.tmp 17), none⟩,
          ⟨some 4, .mov (.tmp 18), none⟩]) (
        .seq (
          .seq (
            .region [
              ⟨some 19, .mov (.tmp 4), none⟩,
              ⟨some 20, .bin .neq .no (.tmp 19) (.const (.int .i64 0)), none⟩]) (
            .cond (.tmp 20) (
              .seq (
                .region [
                  ⟨some 21, .call (.fn 2) [], none⟩,
                  ⟨some 2, .mov (.tmp 21), none⟩]) (
                .ret)) (
              .skip))) (
          .seq (
            .region [
              ⟨some 22, .mov (.tmp 3), none⟩,
              ⟨some 23, .call (.fn 8) [(.tmp 22)], none⟩,
              ⟨some 24, .mov (.tmp 0), none⟩,
              ⟨some 25, .call (.fn 8) [(.tmp 24)], none⟩,
              ⟨some 5, .mov (.tmp 23), none⟩,
              ⟨some 6, .mov (.tmp 25), none⟩]) (
            .seq (
              .seq (
                .region [
                  ⟨some 26, .mov (.tmp 5), none⟩,
                  ⟨some 27, .len false (.tmp 26), none⟩,
                  ⟨some 28, .mov (.tmp 6), none⟩,
                  ⟨some 29, .len false (.tmp 28), none⟩,
                  ⟨some 30, .bin .add .no (.tmp 29) (.const (.int .i64 1)), none⟩,
                  ⟨some 31, .bin .neq .no (.tmp 27) (.tmp 30), none⟩,
                  ⟨some 32, .mov (.tmp 31), none⟩,
                  ⟨some 33, .mov (.tmp 5), some (32, false)⟩,
                  ⟨some 34, .mov (.tmp 6), some (32, false)⟩,
                  ⟨some 35, .len false (.tmp 34), some (32, false)⟩,
                  ⟨some 36, .iaddr 3 (.tmp 33) (.tmp 35), some (32, false)⟩,
                  ⟨some 37, .faddr 1 (.tmp 36), some (32, false)⟩,
                  ⟨some 38, .load false 1 (.tmp 37), some (32, false)⟩,
                  ⟨some 39, .cB2S false (.tmp 38), some (32, false)⟩,
                  ⟨some 40, .bin .neq .no (.tmp 39) (.const (.str [46])), some (32, false)⟩,
                  ⟨some 41, .pick (.tmp 32) (.const (.bool true)) (.tmp 40), none⟩]) (
                .cond (.tmp 41) (
                  .seq (
                    .region [
                      ⟨some 2, .mov (.const (.bool false)), none⟩]) (
                    .ret)) (
                  .skip))) (
              .seq (
                .seq (
                  .region [
                    ⟨some 7, .mov (.const (.int .i64 0)), none⟩]) (
                  .block 0 (
                    .loop (
                      .seq (
                        .seq (
                          .region [
                            ⟨some 42, .mov (.tmp 7), none⟩,
                            ⟨some 43, .mov (.tmp 6), none⟩,
                            ⟨some 44, .len false (.tmp 43), none⟩,
                            ⟨some 45, .bin .lss .no (.tmp 42) (.tmp 44), none⟩]) (
                          .cond (.tmp 45) (
                            .skip) (
                            .exit 0))) (
                        .seq (
                          .block 1 (
                            .seq (
                              .region [
                                ⟨some 48, .mov (.tmp 5), none⟩,
                                ⟨some 49, .mov (.tmp 7), none⟩,
                                ⟨some 50, .iaddr 3 (.tmp 48) (.tmp 49), none⟩,
                                ⟨some 51, .faddr 1 (.tmp 50), none⟩,
                                ⟨some 52, .load false 1 (.tmp 51), none⟩,
                                ⟨some 53, .cB2S false (.tmp 52), none⟩,
                                ⟨some 54, .mov (.tmp 6), none⟩,
                                ⟨some 55, .mov (.tmp 7), none⟩,
                                ⟨some 56, .iaddr 3 (.tmp 54) (.tmp 55), none⟩,
                                ⟨some 57, .faddr 1 (.tmp 56), none⟩,
                                ⟨some 58, .load false 1 (.tmp 57), none⟩,
                                ⟨some 59, .cB2S false (.tmp 58), none⟩,
                                ⟨some 8, .mov (.tmp 53), none⟩,
                                ⟨some 9, .mov (.tmp 59), none⟩]) (
                              .seq (
                                .region [
                                  ⟨some 60, .mov (.tmp 8), none⟩,
                                  ⟨some 61, .bin .eql .no (.tmp 60) (.const (.str [46])), none⟩,
                                  ⟨some 62, .mov (.tmp 61), none⟩,
                                  ⟨some 63, .mov (.tmp 8), some (62, false)⟩,
                                  ⟨some 64, .mov (.tmp 9), some (62, false)⟩,
                                  ⟨some 65, .bin .neq .no (.tmp 63) (.tmp 64), some (62, false)⟩,
                                  ⟨some 66, .mov (.tmp 65), some (62, false)⟩,
                                  ⟨some 67, .mov (.tmp 8), some (66, true)⟩,
                                  ⟨some 68, .mov (.tmp 9), some (66, true)⟩,
                                  ⟨some 69, .bin .add .no (.const (.str [46])) (.tmp 68), some (66, true)⟩,
                                  ⟨some 70, .bin .neq .no (.tmp 67) (.tmp 69), some (66, true)⟩,
                                  ⟨some 71, .pick (.tmp 66) (.tmp 70) (.const (.bool false)), some (62, false)⟩,
                                  ⟨some 72, .pick (.tmp 62) (.const (.bool true)) (.tmp 71), none⟩,
                                  ⟨some 73, .mov (.tmp 72), none⟩,
                                  ⟨some 74, .mov (.tmp 8), some (73, false)⟩,
                                  ⟨some 75, .mov (.tmp 9), some (73, false)⟩,
                                  ⟨some 76, .bin .neq .no (.tmp 74) (.tmp 75), some (73, false)⟩,
                                  ⟨some 77, .mov (.tmp 9), some (73, false)⟩,
                                  ⟨some 78, .len true (.tmp 77), some (73, false)⟩,
                                  ⟨some 79, .bin .gtr .no (.tmp 78) (.const (.int .i64 0)), some (73, false)⟩,
                                  ⟨some 80, .mov (.tmp 79), some (73, false)⟩,
                                  ⟨some 81, .mov (.tmp 9), some (80, true)⟩,
                                  ⟨some 82, .idxS (.tmp 81) (.const (.int .i64 0)), some (80, true)⟩,
                                  ⟨some 83, .bin .eql .no (.tmp 82) (.const (.b8 46)), some (80, true)⟩,
                                  ⟨some 84, .pick (.tmp 80) (.tmp 83) (.const (.bool false)), some (73, false)⟩,
                                  ⟨some 85, .bin .neq .bool (.tmp 76) (.tmp 84), some (73, false)⟩,
                                  ⟨some 86, .pick (.tmp 73) (.const (.bool true)) (.tmp 85), none⟩]) (
                                .cond (.tmp 86) (
                                  .seq (
                                    .region [
                                      ⟨some 2, .mov (.const (.bool false)), none⟩]) (
                                    .ret)) (
                                  .skip))))) (
                          .region [
                            ⟨some 46, .mov (.tmp 7), none⟩,
                            ⟨some 47, .bin .add .no (.tmp 46) (.const (.int .i64 1)), none⟩,
                            ⟨some 7, .mov (.tmp 47), none⟩])))))) (
                .seq (
                  .region [
                    ⟨some 87, .call (.fn 2) [], none⟩,
                    ⟨some 2, .mov (.tmp 87), none⟩]) (
                  .ret))))))))) }

/-- (*posthorn/dots.Reader).Put -/
def F_P_dots_Reader_Put : ACFn := { nt := 70, results := [.tmp 4, .tmp 5, .tmp 6], body := (
  .seq (
    .region [
      ⟨some 4, .mov (.const (.int .i64 0)), none⟩,
      ⟨some 5, .mov (.const (.bool false)), none⟩,
      ⟨some 6, .mov (.const (.int .i64 0)), none⟩]) (
    .seq (
      .seq (
        .region [
          ⟨some 11, .mov (.tmp 0), none⟩,
          ⟨some 12, .bin .eql .ptr (.tmp 11) (.const (.nilp)), none⟩,
          ⟨some 13, .mov (.tmp 12), none⟩,
          ⟨some 14, .mov (.tmp 0), some (13, false)⟩,
          ⟨some 15, .nilck (.tmp 14), some (13, false)⟩,
          ⟨some 16, .faddr 6 (.tmp 15), some (13, false)⟩,
          ⟨some 17, .load false 1 (.tmp 16), some (13, false)⟩,
          ⟨some 18, .pick (.tmp 13) (.const (.bool true)) (.tmp 17), none⟩]) (
        .cond (.tmp 18) (
          .seq (
            .region [
              ⟨some 4, .mov (.const (.int .i64 0)), none⟩,
              ⟨some 5, .mov (.const (.bool false)), none⟩,
              ⟨some 6, .mov (.const (.int .i64 7)), none⟩]) (
            .ret)) (
          .skip))) (
      .seq (
        .seq (
          .region [
            ⟨some 19, .mov (.tmp 1), none⟩,
            ⟨some 20, .len false (.tmp 19), none⟩,
            ⟨some 21, .mov (.const (.int .i64 0)), none⟩]) (
          .block 0 (
            .loop (
              .seq (
                .region [
                  ⟨some 22, .bin .lss .no (.tmp 21) (.tmp 20), none⟩]) (
                .seq (
                  .cond (.tmp 22) (
                    .skip) (
                    .exit 0)) (
                  .seq (
                    .block 1 (
                      .seq (
                        .region [
                          ⟨some 23, .mov (.tmp 21), none⟩,
                          ⟨some 24, .iaddr 1 (.tmp 19) (.tmp 21), none⟩,
                          ⟨some 25, .load false 1 (.tmp 24), none⟩,
                          ⟨some 7, .mov (.tmp 23), none⟩,
                          ⟨some 8, .mov (.tmp 25), none⟩]) (
                        .seq (
                          .region [
                            ⟨some 26, .mov (.tmp 0), none⟩,
                            ⟨some 27, .mov (.tmp 0), none⟩,
                            ⟨some 28, .nilck (.tmp 27), none⟩,
                            ⟨some 29, .faddr 1 (.tmp 28), none⟩,
                            ⟨some 30, .load false 1 (.tmp 29), none⟩,
                            ⟨some 31, .mov (.tmp 8), none⟩,
                            ⟨some 32, .lit8 1 [(0, (.tmp 31))], none⟩,
                            ⟨some 33, .app true 1 (.tmp 30) (.tmp 32), none⟩,
                            ⟨some 34, .nilck (.tmp 26), none⟩,
                            ⟨some 35, .faddr 1 (.tmp 34), none⟩,
                            ⟨none, .store 1 (.tmp 35) (.tmp 33), none⟩]) (
                          .seq (
                            .region [
                              ⟨some 37, .mov (.tmp 0), none⟩,
                              ⟨some 38, .nilck (.tmp 37), none⟩,
                              ⟨some 39, .faddr 1 (.tmp 38), none⟩,
                              ⟨some 40, .load false 1 (.tmp 39), none⟩,
                              ⟨some 41, .lit8 2 [(0, (.const (.b8 13))), (1, (.const (.b8 10)))], none⟩,
                              ⟨some 42, .cSame (.tmp 41), none⟩,
                              ⟨some 43, .call (.fn 19) [(.tmp 40), (.tmp 42)], none⟩,
                              ⟨some 36, .mov (.tmp 43), none⟩,
                              ⟨some 44, .ext 0 (.tmp 36), none⟩,
                              ⟨some 45, .ext 1 (.tmp 36), none⟩,
                              ⟨some 9, .mov (.tmp 44), none⟩,
                              ⟨some 10, .mov (.tmp 45), none⟩]) (
                            .seq (
                              .region [
                                ⟨some 46, .mov (.tmp 10), none⟩]) (
                              .cond (.tmp 46) (
                                .seq (
                                  .region [
                                    ⟨some 47, .mov (.tmp 0), none⟩,
                                    ⟨some 48, .nilck (.tmp 47), none⟩,
                                    ⟨some 49, .faddr 1 (.tmp 48), none⟩,
                                    ⟨none, .store 1 (.tmp 49) (.const (.nils)), none⟩]) (
                                  .seq (
                                    .seq (
                                      .region [
                                        ⟨some 50, .mov (.tmp 0), none⟩,
                                        ⟨some 51, .mov (.tmp 9), none⟩,
                                        ⟨some 52, .cB2S false (.tmp 51), none⟩,
                                        ⟨some 53, .bin .eql .no (.tmp 52) (.const (.str [46])), none⟩,
                                        ⟨some 54, .nilck (.tmp 50), none⟩,
                                        ⟨some 55, .faddr 6 (.tmp 54), none⟩,
                                        ⟨none, .store 1 (.tmp 55) (.tmp 53), none⟩]) (
                                      .seq (
                                        .region [
                                          ⟨some 56, .mov (.tmp 0), none⟩,
                                          ⟨some 57, .nilck (.tmp 56), none⟩,
                                          ⟨some 58, .faddr 6 (.tmp 57), none⟩,
                                          ⟨some 59, .load false 1 (.tmp 58), none⟩]) (
                                        .cond (.tmp 59) (
                                          .seq (
                                            .region [
                                              ⟨some 60, .mov (.tmp 7), none⟩,
                                              ⟨some 61, .bin .add .no (.tmp 60) (.const (.int .i64 1)), none⟩,
                                              ⟨some 62, .mov (.tmp 0), none⟩,
                                              ⟨some 63, .call (.fn 23) [(.tmp 62)], none⟩,
                                              ⟨some 4, .mov (.tmp 61), none⟩,
                                              ⟨some 5, .mov (.const (.bool true)), none⟩,
                                              ⟨some 6, .mov (.tmp 63), none⟩]) (
                                            .ret)) (
                                          .skip)))) (
                                    .region [
                                      ⟨some 64, .mov (.tmp 0), none⟩,
                                      ⟨some 65, .mov (.tmp 9), none⟩,
                                      ⟨some 66, .call (.fn 24) [(.tmp 64), (.tmp 65)], none⟩]))) (
                                .skip))))))) (
                    .region [
                      ⟨some 67, .bin .add .no (.tmp 21) (.const (.int .i64 1)), none⟩,
                      ⟨some 21, .mov (.tmp 67), none⟩]))))))) (
        .seq (
          .region [
            ⟨some 68, .mov (.tmp 1), none⟩,
            ⟨some 69, .len false (.tmp 68), none⟩,
            ⟨some 4, .mov (.tmp 69), none⟩,
            ⟨some 5, .mov (.const (.bool false)), none⟩,
            ⟨some 6, .mov (.const (.int .i64 0)), none⟩]) (
          .ret))))) }

/-- posthorn/posthornref05.Frame -/
def F_posthornref05_Frame : ACFn := { nt := 117, results := [.tmp 4, .tmp 5, .tmp 6, .tmp 7], body := (
  .seq (
    .region [
      ⟨some 4, .mov (.const (.int .i64 0)), none⟩,
      ⟨some 5, .mov (.const (.bool false)), none⟩,
      ⟨some 6, .mov (.const (.int .i64 0)), none⟩,
      ⟨some 7, .mov (.const (.nils)), none⟩]) (
    .seq (
      .region [
        ⟨some 16, .mov (.tmp 1), none⟩,
        ⟨some 17, .call (.fn 8) [(.tmp 16)], none⟩,
        ⟨some 8, .mov (.tmp 17), none⟩]) (
      .seq (
        .region [
          ⟨some 9, .mov (.const (.nils)), none⟩]) (
        .seq (
          .region [
            ⟨some 10, .mov (.const (.bool false)), none⟩,
            ⟨some 11, .mov (.const (.bool false)), none⟩,
            ⟨some 12, .mov (.const (.bool false)), none⟩]) (
          .seq (
            .seq (
              .region [
                ⟨some 18, .mov (.tmp 0), none⟩,
                ⟨some 19, .bin .lss .no (.tmp 18) (.const (.int .i64 0)), none⟩]) (
              .cond (.tmp 19) (
                .region [
                  ⟨some 0, .mov (.const (.int .i64 0)), none⟩]) (
                .skip))) (
            .seq (
              .seq (
                .region [
                  ⟨some 13, .mov (.const (.int .i64 0)), none⟩]) (
                .block 0 (
                  .loop (
                    .seq (
                      .seq (
                        .region [
                          ⟨some 20, .mov (.tmp 13), none⟩,
                          ⟨some 21, .mov (.tmp 8), none⟩,
                          ⟨some 22, .len false (.tmp 21), none⟩,
                          ⟨some 23, .bin .lss .no (.tmp 20) (.tmp 22), none⟩,
                          ⟨some 24, .mov (.tmp 23), none⟩,
                          ⟨some 25, .mov (.tmp 8), some (24, true)⟩,
                          ⟨some 26, .mov (.tmp 13), some (24, true)⟩,
                          ⟨some 27, .iaddr 3 (.tmp 25) (.tmp 26), some (24, true)⟩,
                          ⟨some 28, .faddr 2 (.tmp 27), some (24, true)⟩,
                          ⟨some 29, .load false 1 (.tmp 28), some (24, true)⟩,
                          ⟨some 30, .pick (.tmp 24) (.tmp 29) (.const (.bool false)), none⟩]) (
                        .cond (.tmp 30) (
                          .skip) (
                          .exit 0))) (
                      .seq (
                        .block 1 (
                          .seq (
                            .region [
                              ⟨some 33, .mov (.tmp 8), none⟩,
                              ⟨some 34, .mov (.tmp 13), none⟩,
                              ⟨some 35, .iaddr 3 (.tmp 33) (.tmp 34), none⟩,
                              ⟨some 36, .faddr 1 (.tmp 35), none⟩,
                              ⟨some 37, .load false 1 (.tmp 36), none⟩,
                              ⟨some 14, .mov (.tmp 37), none⟩]) (
                            .seq (
                              .seq (
                                .region [
                                  ⟨some 38, .mov (.tmp 14), none⟩,
                                  ⟨some 39, .len false (.tmp 38), none⟩,
                                  ⟨some 40, .bin .eql .no (.tmp 39) (.const (.int .i64 1)), none⟩,
                                  ⟨some 41, .mov (.tmp 40), none⟩,
                                  ⟨some 42, .mov (.tmp 14), some (41, true)⟩,
                                  ⟨some 43, .iaddr 1 (.tmp 42) (.const (.int .i64 0)), some (41, true)⟩,
                                  ⟨some 44, .load false 1 (.tmp 43), some (41, true)⟩,
                                  ⟨some 45, .bin .eql .no (.tmp 44) (.const (.b8 46)), some (41, true)⟩,
                                  ⟨some 46, .pick (.tmp 41) (.tmp 45) (.const (.bool false)), none⟩]) (
                                .cond (.tmp 46) (
                                  .seq (
                                    .region [
                                      ⟨some 47, .mov (.tmp 10), none⟩,
                                      ⟨some 48, .mov (.tmp 11), none⟩,
                                      ⟨some 49, .mov (.tmp 12), none⟩,
                                      ⟨some 50, .call (.fn 25) [(.tmp 47), (.tmp 48), (.tmp 49)], none⟩,
                                      ⟨some 15, .mov (.tmp 50), none⟩]) (
                                    .seq (
                                      .seq (
                                        .region [
                                          ⟨some 51, .mov (.tmp 15), none⟩,
                                          ⟨some 52, .bin .neq .no (.tmp 51) (.const (.int .i64 0)), none⟩]) (
                                        .cond (.tmp 52) (
                                          .region [
                                            ⟨some 9, .mov (.const (.nils)), none⟩]) (
                                          .skip))) (
                                      .seq (
                                        .region [
                                          ⟨some 53, .mov (.tmp 8), none⟩,
                                          ⟨some 54, .mov (.tmp 13), none⟩,
                                          ⟨some 55, .iaddr 3 (.tmp 53) (.tmp 54), none⟩,
                                          ⟨some 56, .faddr 0 (.tmp 55), none⟩,
                                          ⟨some 57, .load false 1 (.tmp 56), none⟩,
                                          ⟨some 58, .bin .add .no (.tmp 57) (.const (.int .i64 3)), none⟩,
                                          ⟨some 59, .mov (.tmp 15), none⟩,
                                          ⟨some 60, .mov (.tmp 9), none⟩,
                                          ⟨some 4, .mov (.tmp 58), none⟩,
                                          ⟨some 5, .mov (.const (.bool true)), none⟩,
                                          ⟨some 6, .mov (.tmp 59), none⟩,
                                          ⟨some 7, .mov (.tmp 60), none⟩]) (
                                        .ret)))) (
                                  .skip))) (
                              .seq (
                                .region [
                                  ⟨some 61, .mov (.tmp 10), none⟩,
                                  ⟨some 62, .mov (.tmp 61), none⟩,
                                  ⟨some 63, .mov (.tmp 14), some (62, false)⟩,
                                  ⟨some 64, .call (.fn 21) [(.tmp 63)], some (62, false)⟩,
                                  ⟨some 65, .bin .geq .no (.tmp 64) (.const (.int .i64 0)), some (62, false)⟩,
                                  ⟨some 66, .pick (.tmp 62) (.const (.bool true)) (.tmp 65), none⟩,
                                  ⟨some 10, .mov (.tmp 66), none⟩]) (
                                .seq (
                                  .region [
                                    ⟨some 67, .mov (.tmp 11), none⟩,
                                    ⟨some 68, .mov (.tmp 67), none⟩,
                                    ⟨some 69, .mov (.tmp 14), some (68, false)⟩,
                                    ⟨some 70, .len false (.tmp 69), some (68, false)⟩,
                                    ⟨some 71, .bin .gtr .no (.tmp 70) (.const (.int .i64 999)), some (68, false)⟩,
                                    ⟨some 72, .pick (.tmp 68) (.const (.bool true)) (.tmp 71), none⟩,
                                    ⟨some 11, .mov (.tmp 72), none⟩]) (
                                  .seq (
                                    .seq (
                                      .region [
                                        ⟨some 73, .mov (.tmp 14), none⟩,
                                        ⟨some 74, .len false (.tmp 73), none⟩,
                                        ⟨some 75, .bin .gtr .no (.tmp 74) (.const (.int .i64 0)), none⟩,
                                        ⟨some 76, .mov (.tmp 75), none⟩,
                                        ⟨some 77, .mov (.tmp 14), some (76, true)⟩,
                                        ⟨some 78, .iaddr 1 (.tmp 77) (.const (.int .i64 0)), some (76, true)⟩,
                                        ⟨some 79, .load false 1 (.tmp 78), some (76, true)⟩,
                                        ⟨some 80, .bin .eql .no (.tmp 79) (.const (.b8 46)), some (76, true)⟩,
                                        ⟨some 81, .pick (.tmp 76) (.tmp 80) (.const (.bool false)), none⟩]) (
                                      .cond (.tmp 81) (
                                        .region [
                                          ⟨some 82, .mov (.tmp 14), none⟩,
                                          ⟨some 83, .slc 1 (.tmp 82) (some (.const (.int .i64 1))) none none, none⟩,
                                          ⟨some 14, .mov (.tmp 83), none⟩]) (
                                        .skip))) (
                                    .seq (
                                      .region [
                                        ⟨some 84, .mov (.tmp 11), none⟩,
                                        ⟨some 85, .mov (.tmp 84), none⟩,
                                        ⟨some 86, .mov (.tmp 14), some (85, false)⟩,
                                        ⟨some 87, .len false (.tmp 86), some (85, false)⟩,
                                        ⟨some 88, .bin .gtr .no (.tmp 87) (.const (.int .i64 998)), some (85, false)⟩,
                                        ⟨some 89, .pick (.tmp 85) (.const (.bool true)) (.tmp 88), none⟩,
                                        ⟨some 11, .mov (.tmp 89), none⟩]) (
                                      .seq (
                                        .region [
                                          ⟨some 90, .mov (.tmp 12), none⟩,
                                          ⟨some 91, .mov (.tmp 90), none⟩,
                                          ⟨some 92, .mov (.tmp 9), some (91, false)⟩,
                                          ⟨some 93, .len false (.tmp 92), some (91, false)⟩,
                                          ⟨some 94, .mov (.tmp 14), some (91, false)⟩,
                                          ⟨some 95, .len false (.tmp 94), some (91, false)⟩,
                                          ⟨some 96, .bin .add .no (.tmp 93) (.tmp 95), some (91, false)⟩,
                                          ⟨some 97, .bin .add .no (.tmp 96) (.const (.int .i64 2)), some (91, false)⟩,
                                          ⟨some 98, .mov (.tmp 0), some (91, false)⟩,
                                          ⟨some 99, .bin .gtr .no (.tmp 97) (.tmp 98), some (91, false)⟩,
                                          ⟨some 100, .pick (.tmp 91) (.const (.bool true)) (.tmp 99), none⟩,
                                          ⟨some 12, .mov (.tmp 100), none⟩]) (
                                        .seq (
                                          .region [
                                            ⟨some 101, .mov (.tmp 12), none⟩,
                                            ⟨some 102, .un .not (.tmp 101), none⟩]) (
                                          .cond (.tmp 102) (
                                            .seq (
                                              .region [
                                                ⟨some 103, .mov (.tmp 9), none⟩,
                                                ⟨some 104, .mov (.tmp 14), none⟩,
                                                ⟨some 105, .app true 1 (.tmp 103) (.tmp 104), none⟩,
                                                ⟨some 9, .mov (.tmp 105), none⟩]) (
                                              .region [
                                                ⟨some 106, .mov (.tmp 9), none⟩,
                                                ⟨some 107, .lit8 2 [(0, (.const (.b8 13))), (1, (.const (.b8 10)))], none⟩,
                                                ⟨some 108, .app true 1 (.tmp 106) (.tmp 107), none⟩,
                                                ⟨some 9, .mov (.tmp 108), none⟩])) (
                                            .skip))))))))))) (
                        .region [
                          ⟨some 31, .mov (.tmp 13), none⟩,
                          ⟨some 32, .bin .add .no (.tmp 31) (.const (.int .i64 1)), none⟩,
                          ⟨some 13, .mov (.tmp 32), none⟩])))))) (
              .seq (
                .seq (
                  .region [
                    ⟨some 109, .mov (.tmp 10), none⟩,
                    ⟨some 110, .mov (.tmp 11), none⟩,
                    ⟨some 111, .mov (.tmp 12), none⟩,
                    ⟨some 112, .call (.fn 25) [(.tmp 109), (.tmp 110), (.tmp 111)], none⟩,
                    ⟨some 113, .bin .neq .no (.tmp 112) (.const (.int .i64 0)), none⟩]) (
                  .cond (.tmp 113) (
                    .region [
                      ⟨some 9, .mov (.const (.nils)), none⟩]) (
                    .skip))) (
                .seq (
                  .region [
                    ⟨some 114, .mov (.tmp 1), none⟩,
                    ⟨some 115, .len false (.tmp 114), none⟩,
                    ⟨some 116, .mov (.tmp 9), none⟩,
                    ⟨some 4, .mov (.tmp 115), none⟩,
                    ⟨some 5, .mov (.const (.bool false)), none⟩,
                    ⟨some 6, .mov (.const (.int .i64 0)), none⟩,
                    ⟨some 7, .mov (.tmp 116), none⟩]) (
                  .ret))))))))) }

/-- (*posthorn/dots.Reader).Text -/
def F_P_dots_Reader_Text : ACFn := { nt := 15, results := [.tmp 2], body := (
  .seq (
    .region [
      ⟨some 2, .mov (.const (.nils)), none⟩]) (
    .seq (
      .seq (
        .region [
          ⟨some 3, .mov (.tmp 0), none⟩,
          ⟨some 4, .bin .eql .ptr (.tmp 3) (.const (.nilp)), none⟩,
          ⟨some 5, .mov (.tmp 4), none⟩,
          ⟨some 6, .mov (.tmp 0), some (5, false)⟩,
          ⟨some 7, .call (.fn 23) [(.tmp 6)], some (5, false)⟩,
          ⟨some 8, .bin .neq .no (.tmp 7) (.const (.int .i64 0)), some (5, false)⟩,
          ⟨some 9, .pick (.tmp 5) (.const (.bool true)) (.tmp 8), none⟩]) (
        .cond (.tmp 9) (
          .seq (
            .region [
              ⟨some 2, .mov (.const (.nils)), none⟩]) (
            .ret)) (
          .skip))) (
      .seq (
        .region [
          ⟨some 10, .mov (.tmp 0), none⟩,
          ⟨some 11, .nilck (.tmp 10), none⟩,
          ⟨some 12, .faddr 2 (.tmp 11), none⟩,
          ⟨some 13, .load false 1 (.tmp 12), none⟩,
          ⟨some 14, .call (.fn 26) [(.tmp 13)], none⟩,
          ⟨some 2, .mov (.tmp 14), none⟩]) (
        .ret)))) }

/-- posthorn/posthornlaw05.DotsNobody -/
def F_posthornlaw05_DotsNobody : ACFn := { nt := 73, results := [.tmp 2], body := (
  .seq (
    .region [
      ⟨some 2, .mov (.const (.bool false)), none⟩]) (
    .seq (
      .seq (
        .region [
          ⟨some 15, .mov (.tmp 0), none⟩,
          ⟨some 16, .len false (.tmp 15), none⟩,
          ⟨some 17, .bin .gtr .no (.tmp 16) (.const (.int .i64 2000)), none⟩]) (
        .cond (.tmp 17) (
          .seq (
            .region [
              ⟨some 18, .call (.fn 2) [], none⟩,
              ⟨some 2, .mov (.tmp 18), none⟩]) (
            .ret)) (
          .skip))) (
      .seq (
        .region [
          ⟨some 3, .mov (.const (.nilp)), none⟩]) (
        .seq (
          .region [
            ⟨some 4, .alloc [.int .i64 0, .nils, .nils, .bool false, .bool false, .bool false, .bool false], none⟩]) (
          .seq (
            .region [
              ⟨some 20, .mov (.tmp 3), none⟩,
              ⟨some 21, .mov (.tmp 0), none⟩,
              ⟨some 22, .call (.fn 10) [(.tmp 20), (.tmp 21)], none⟩,
              ⟨some 19, .mov (.tmp 22), none⟩,
              ⟨some 23, .ext 0 (.tmp 19), none⟩,
              ⟨some 24, .ext 1 (.tmp 19), none⟩,
              ⟨some 25, .ext 2 (.tmp 19), none⟩,
              ⟨some 5, .mov (.tmp 23), none⟩,
              ⟨some 6, .mov (.tmp 24), none⟩,
              ⟨some 7, .mov (.tmp 25), none⟩]) (
            .seq (
              .region [
                ⟨some 27, .mov (.tmp 0), none⟩,
                ⟨some 28, .call (.fn 10) [(.tmp 4), (.tmp 27)], none⟩,
                ⟨some 26, .mov (.tmp 28), none⟩,
                ⟨some 29, .ext 0 (.tmp 26), none⟩,
                ⟨some 30, .ext 1 (.tmp 26), none⟩,
                ⟨some 31, .ext 2 (.tmp 26), none⟩,
                ⟨some 8, .mov (.tmp 29), none⟩,
                ⟨some 9, .mov (.tmp 30), none⟩,
                ⟨some 10, .mov (.tmp 31), none⟩]) (
              .seq (
                .region [
                  ⟨some 33, .mov (.tmp 0), none⟩,
                  ⟨some 34, .call (.fn 11) [(.const (.int .i64 0)), (.tmp 33)], none⟩,
                  ⟨some 32, .mov (.tmp 34), none⟩,
                  ⟨some 35, .ext 0 (.tmp 32), none⟩,
                  ⟨some 36, .ext 1 (.tmp 32), none⟩,
                  ⟨some 37, .ext 2 (.tmp 32), none⟩,
                  ⟨some 38, .ext 3 (.tmp 32), none⟩,
                  ⟨some 11, .mov (.tmp 35), none⟩,
                  ⟨some 12, .mov (.tmp 36), none⟩,
                  ⟨some 13, .mov (.tmp 37), none⟩,
                  ⟨some 14, .mov (.tmp 38), none⟩]) (
                .seq (
                  .region [
                    ⟨some 39, .call (.fn 2) [], none⟩,
                    ⟨some 40, .mov (.tmp 39), none⟩,
                    ⟨some 41, .mov (.tmp 5), some (40, true)⟩,
                    ⟨some 42, .bin .eql .no (.tmp 41) (.const (.int .i64 0)), some (40, true)⟩,
                    ⟨some 43, .pick (.tmp 40) (.tmp 42) (.const (.bool false)), none⟩,
                    ⟨some 44, .mov (.tmp 43), none⟩,
                    ⟨some 45, .mov (.tmp 6), some (44, true)⟩,
                    ⟨some 46, .un .not (.tmp 45), some (44, true)⟩,
                    ⟨some 47, .pick (.tmp 44) (.tmp 46) (.const (.bool false)), none⟩,
                    ⟨some 48, .mov (.tmp 47), none⟩,
                    ⟨some 49, .mov (.tmp 7), some (48, true)⟩,
                    ⟨some 50, .bin .eql .no (.tmp 49) (.const (.int .i64 7)), some (48, true)⟩,
                    ⟨some 51, .pick (.tmp 48) (.tmp 50) (.const (.bool false)), none⟩,
                    ⟨some 52, .mov (.tmp 51), none⟩,
                    ⟨some 53, .mov (.tmp 3), some (52, true)⟩,
                    ⟨some 54, .call (.fn 12) [(.tmp 53)], some (52, true)⟩,
                    ⟨some 55, .len false (.tmp 54), some (52, true)⟩,
                    ⟨some 56, .bin .eql .no (.tmp 55) (.const (.int .i64 0)), some (52, true)⟩,
                    ⟨some 57, .pick (.tmp 52) (.tmp 56) (.const (.bool false)), none⟩,
                    ⟨some 58, .mov (.tmp 57), none⟩,
                    ⟨some 59, .mov (.tmp 8), some (58, true)⟩,
                    ⟨some 60, .mov (.tmp 11), some (58, true)⟩,
                    ⟨some 61, .bin .eql .no (.tmp 59) (.tmp 60), some (58, true)⟩,
                    ⟨some 62, .pick (.tmp 58) (.tmp 61) (.const (.bool false)), none⟩,
                    ⟨some 63, .mov (.tmp 62), none⟩,
                    ⟨some 64, .mov (.tmp 9), some (63, true)⟩,
                    ⟨some 65, .mov (.tmp 12), some (63, true)⟩,
                    ⟨some 66, .bin .eql .bool (.tmp 64) (.tmp 65), some (63, true)⟩,
                    ⟨some 67, .pick (.tmp 63) (.tmp 66) (.const (.bool false)), none⟩,
                    ⟨some 68, .mov (.tmp 67), none⟩,
                    ⟨some 69, .mov (.tmp 10), some (68, true)⟩,
                    ⟨some 70, .mov (.tmp 13), some (68, true)⟩,
                    ⟨some 71, .bin .eql .no (.tmp 69) (.tmp 70), some (68, true)⟩,
                    ⟨some 72, .pick (.tmp 68) (.tmp 71) (.const (.bool false)), none⟩,
                    ⟨some 2, .mov (.tmp 72), none⟩]) (
                  .ret))))))))) }

/-- posthorn/posthornref01.Copy -/
def F_posthornref01_Copy : ACFn := { nt := 7, results := [.tmp 2], body := (
  .seq (
    .region [
      ⟨some 2, .mov (.const (.nils)), none⟩]) (
    .seq (
      .region [
        ⟨some 3, .mov (.const (.nils)), none⟩]) (
      .seq (
        .region [
          ⟨some 4, .mov (.tmp 3), none⟩,
          ⟨some 5, .mov (.tmp 0), none⟩,
          ⟨some 6, .app true 1 (.tmp 4) (.tmp 5), none⟩,
          ⟨some 2, .mov (.tmp 6), none⟩]) (
        .ret)))) }

/-- posthorn/dots.New -/
def F_dots_New : ACFn := { nt := 7, results := [.tmp 2], body := (
  .seq (
    .region [
      ⟨some 2, .mov (.const (.nilp)), none⟩]) (
    .seq (
      .region [
        ⟨some 3, .mov (.tmp 0), none⟩,
        ⟨some 4, .mnmx true [(.tmp 3), (.const (.int .i64 0))], none⟩,
        ⟨some 5, .build [.int .i64 0, .nils, .nils, .bool false, .bool false, .bool false, .bool false] [(0, 1, (.tmp 4))], none⟩,
        ⟨some 6, .box (.tmp 5), none⟩,
        ⟨some 2, .mov (.tmp 6), none⟩]) (
      .ret))) }

/-- posthorn/posthornlaw05.DotsBack -/
def F_posthornlaw05_DotsBack : ACFn := { nt := 113, results := [.tmp 6], body := (
  .seq (
    .region [
      ⟨some 6, .mov (.const (.bool false)), none⟩]) (
    .seq (
      .seq (
        .region [
          ⟨some 17, .mov (.tmp 0), none⟩,
          ⟨some 18, .len false (.tmp 17), none⟩,
          ⟨some 19, .bin .gtr .no (.tmp 18) (.const (.int .i64 4000)), none⟩,
          ⟨some 20, .mov (.tmp 19), none⟩,
          ⟨some 21, .mov (.tmp 1), some (20, false)⟩,
          ⟨some 22, .len false (.tmp 21), some (20, false)⟩,
          ⟨some 23, .bin .gtr .no (.tmp 22) (.const (.int .i64 100)), some (20, false)⟩,
          ⟨some 24, .pick (.tmp 20) (.const (.bool true)) (.tmp 23), none⟩]) (
        .cond (.tmp 24) (
          .seq (
            .region [
              ⟨some 25, .call (.fn 2) [], none⟩,
              ⟨some 6, .mov (.tmp 25), none⟩]) (
            .ret)) (
          .skip))) (
      .seq (
        .region [
          ⟨some 27, .mov (.tmp 0), none⟩,
          ⟨some 28, .call (.fn 3) [(.tmp 27)], none⟩,
          ⟨some 26, .mov (.tmp 28), none⟩,
          ⟨some 29, .ext 0 (.tmp 26), none⟩,
          ⟨some 30, .ext 1 (.tmp 26), none⟩,
          ⟨some 7, .mov (.tmp 29), none⟩,
          ⟨some 8, .mov (.tmp 30), none⟩]) (
        .seq (
          .seq (
            .region [
              ⟨some 31, .mov (.tmp 8), none⟩,
              ⟨some 32, .bin .neq .no (.tmp 31) (.const (.int .i64 0)), none⟩]) (
            .cond (.tmp 32) (
              .seq (
                .region [
                  ⟨some 33, .call (.fn 2) [], none⟩,
                  ⟨some 34, .mov (.tmp 33), none⟩,
                  ⟨some 35, .mov (.tmp 7), some (34, true)⟩,
                  ⟨some 36, .len false (.tmp 35), some (34, true)⟩,
                  ⟨some 37, .bin .eql .no (.tmp 36) (.const (.int .i64 0)), some (34, true)⟩,
                  ⟨some 38, .pick (.tmp 34) (.tmp 37) (.const (.bool false)), none⟩,
                  ⟨some 6, .mov (.tmp 38), none⟩]) (
                .ret)) (
              .skip))) (
          .seq (
            .region [
              ⟨some 39, .mov (.tmp 7), none⟩,
              ⟨some 40, .call (.fn 14) [(.tmp 39)], none⟩,
              ⟨some 41, .mov (.tmp 1), none⟩,
              ⟨some 42, .app true 1 (.tmp 40) (.tmp 41), none⟩,
              ⟨some 9, .mov (.tmp 42), none⟩]) (
            .seq (
              .region [
                ⟨some 43, .mov (.tmp 0), none⟩,
                ⟨some 44, .len false (.tmp 43), none⟩,
                ⟨some 45, .call (.fn 15) [(.tmp 44)], none⟩,
                ⟨some 10, .mov (.tmp 45), none⟩]) (
              .seq (
                .region [
                  ⟨some 11, .mov (.const (.int .i64 0)), none⟩]) (
                .seq (
                  .seq (
                    .region [
                      ⟨some 12, .mov (.const (.int .i64 0)), none⟩]) (
                    .block 0 (
                      .loop (
                        .seq (
                          .seq (
                            .region [
                              ⟨some 46, .mov (.tmp 12), none⟩,
                              ⟨some 47, .bin .lss .no (.tmp 46) (.const (.int .i64 6000)), none⟩]) (
                            .cond (.tmp 47) (
                              .skip) (
                              .exit 0))) (
                          .seq (
                            .block 1 (
                              .seq (
                                .region [
                                  ⟨some 13, .mov (.const (.int .i64 7)), none⟩]) (
                                .seq (
                                  .seq (
                                    .region [
                                      ⟨some 50, .mov (.tmp 12), none⟩,
                                      ⟨some 51, .mov (.tmp 2), none⟩,
                                      ⟨some 52, .len false (.tmp 51), none⟩,
                                      ⟨some 53, .bin .lss .no (.tmp 50) (.tmp 52), none⟩]) (
                                    .cond (.tmp 53) (
                                      .region [
                                        ⟨some 54, .mov (.tmp 2), none⟩,
                                        ⟨some 55, .mov (.tmp 12), none⟩,
                                        ⟨some 56, .iaddr 1 (.tmp 54) (.tmp 55), none⟩,
                                        ⟨some 57, .load false 1 (.tmp 56), none⟩,
                                        ⟨some 58, .cInt .i64 (.tmp 57), none⟩,
                                        ⟨some 59, .bin .add .no (.const (.int .i64 1)) (.tmp 58), none⟩,
                                        ⟨some 13, .mov (.tmp 59), none⟩]) (
                                      .skip))) (
                                  .seq (
                                    .seq (
                                      .region [
                                        ⟨some 60, .mov (.tmp 13), none⟩,
                                        ⟨some 61, .mov (.tmp 9), none⟩,
                                        ⟨some 62, .len false (.tmp 61), none⟩,
                                        ⟨some 63, .bin .gtr .no (.tmp 60) (.tmp 62), none⟩]) (
                                      .cond (.tmp 63) (
                                        .region [
                                          ⟨some 64, .mov (.tmp 9), none⟩,
                                          ⟨some 65, .len false (.tmp 64), none⟩,
                                          ⟨some 13, .mov (.tmp 65), none⟩]) (
                                        .skip))) (
                                    .seq (
                                      .region [
                                        ⟨some 67, .mov (.tmp 10), none⟩,
                                        ⟨some 68, .mov (.tmp 9), none⟩,
                                        ⟨some 69, .mov (.tmp 13), none⟩,
                                        ⟨some 70, .slc 1 (.tmp 68) none (some (.tmp 69)) none, none⟩,
                                        ⟨some 71, .call (.fn 10) [(.tmp 67), (.tmp 70)], none⟩,
                                        ⟨some 66, .mov (.tmp 71), none⟩,
                                        ⟨some 72, .ext 0 (.tmp 66), none⟩,
                                        ⟨some 73, .ext 1 (.tmp 66), none⟩,
                                        ⟨some 74, .ext 2 (.tmp 66), none⟩,
                                        ⟨some 14, .mov (.tmp 72), none⟩,
                                        ⟨some 15, .mov (.tmp 73), none⟩,
                                        ⟨some 16, .mov (.tmp 74), none⟩]) (
                                      .seq (
                                        .region [
                                          ⟨some 75, .mov (.tmp 11), none⟩,
                                          ⟨some 76, .mov (.tmp 14), none⟩,
                                          ⟨some 77, .bin .add .no (.tmp 75) (.tmp 76), none⟩,
                                          ⟨some 11, .mov (.tmp 77), none⟩]) (
                                        .seq (
                                          .region [
                                            ⟨some 78, .mov (.tmp 9), none⟩,
                                            ⟨some 79, .mov (.tmp 13), none⟩,
                                            ⟨some 80, .slc 1 (.tmp 78) (some (.tmp 79)) none none, none⟩,
                                            ⟨some 9, .mov (.tmp 80), none⟩]) (
                                          .seq (
                                            .seq (
                                              .region [
                                                ⟨some 81, .mov (.tmp 15), none⟩]) (
                                              .cond (.tmp 81) (
                                                .seq (
                                                  .region [
                                                    ⟨some 82, .call (.fn 2) [], none⟩,
                                                    ⟨some 83, .mov (.tmp 82), none⟩,
                                                    ⟨some 84, .mov (.tmp 16), some (83, true)⟩,
                                                    ⟨some 85, .bin .eql .no (.tmp 84) (.const (.int .i64 0)), some (83, true)⟩,
                                                    ⟨some 86, .pick (.tmp 83) (.tmp 85) (.const (.bool false)), none⟩,
                                                    ⟨some 87, .mov (.tmp 86), none⟩,
                                                    ⟨some 88, .mov (.tmp 11), some (87, true)⟩,
                                                    ⟨some 89, .mov (.tmp 7), some (87, true)⟩,
                                                    ⟨some 90, .len false (.tmp 89), some (87, true)⟩,
                                                    ⟨some 91, .bin .eql .no (.tmp 88) (.tmp 90), some (87, true)⟩,
                                                    ⟨some 92, .pick (.tmp 87) (.tmp 91) (.const (.bool false)), none⟩,
                                                    ⟨some 93, .mov (.tmp 92), none⟩,
                                                    ⟨some 94, .mov (.tmp 10), some (93, true)⟩,
                                                    ⟨some 95, .call (.fn 12) [(.tmp 94)], some (93, true)⟩,
                                                    ⟨some 96, .cB2S false (.tmp 95), some (93, true)⟩,
                                                    ⟨some 97, .mov (.tmp 0), some (93, true)⟩,
                                                    ⟨some 98, .cB2S false (.tmp 97), some (93, true)⟩,
                                                    ⟨some 99, .bin .eql .no (.tmp 96) (.tmp 98), some (93, true)⟩,
                                                    ⟨some 100, .pick (.tmp 93) (.tmp 99) (.const (.bool false)), none⟩,
                                                    ⟨some 6, .mov (.tmp 100), none⟩]) (
                                                  .ret)) (
                                                .skip))) (
                                            .seq (
                                              .region [
                                                ⟨some 101, .mov (.tmp 14), none⟩,
                                                ⟨some 102, .mov (.tmp 13), none⟩,
                                                ⟨some 103, .bin .neq .no (.tmp 101) (.tmp 102), none⟩,
                                                ⟨some 104, .mov (.tmp 103), none⟩,
                                                ⟨some 105, .mov (.tmp 16), some (104, false)⟩,
                                                ⟨some 106, .bin .neq .no (.tmp 105) (.const (.int .i64 0)), some (104, false)⟩,
                                                ⟨some 107, .pick (.tmp 104) (.const (.bool true)) (.tmp 106), none⟩,
                                                ⟨some 108, .mov (.tmp 107), none⟩,
                                                ⟨some 109, .mov (.tmp 9), some (108, false)⟩,
                                                ⟨some 110, .len false (.tmp 109), some (108, false)⟩,
                                                ⟨some 111, .bin .eql .no (.tmp 110) (.const (.int .i64 0)), some (108, false)⟩,
                                                ⟨some 112, .pick (.tmp 108) (.const (.bool true)) (.tmp 111), none⟩]) (
                                              .cond (.tmp 112) (
                                                .seq (
                                                  .region [
                                                    ⟨some 6, .mov (.const (.bool false)), none⟩]) (
                                                  .ret)) (
                                                .skip))))))))))) (
                            .region [
                              ⟨some 48, .mov (.tmp 12), none⟩,
                              ⟨some 49, .bin .add .no (.tmp 48) (.const (.int .i64 1)), none⟩,
                              ⟨some 12, .mov (.tmp 49), none⟩])))))) (
                  .seq (
                    .region [
                      ⟨some 6, .mov (.const (.bool false)), none⟩]) (
                    .ret)))))))))) }

/-- posthorn/posthornlaw05.DotsCuts -/
def F_posthornlaw05_DotsCuts : ACFn := { nt := 93, results := [.tmp 6], body := (
  .seq (
    .region [
      ⟨some 6, .mov (.const (.bool false)), none⟩]) (
    .seq (
      .seq (
        .region [
          ⟨some 18, .mov (.tmp 1), none⟩,
          ⟨some 19, .len false (.tmp 18), none⟩,
          ⟨some 20, .bin .gtr .no (.tmp 19) (.const (.int .i64 4000)), none⟩,
          ⟨some 21, .mov (.tmp 20), none⟩,
          ⟨some 22, .mov (.tmp 2), some (21, false)⟩,
          ⟨some 23, .bin .lss .no (.tmp 22) (.const (.int .i64 0)), some (21, false)⟩,
          ⟨some 24, .pick (.tmp 21) (.const (.bool true)) (.tmp 23), none⟩,
          ⟨some 25, .mov (.tmp 24), none⟩,
          ⟨some 26, .mov (.tmp 2), some (25, false)⟩,
          ⟨some 27, .mov (.tmp 1), some (25, false)⟩,
          ⟨some 28, .len false (.tmp 27), some (25, false)⟩,
          ⟨some 29, .bin .gtr .no (.tmp 26) (.tmp 28), some (25, false)⟩,
          ⟨some 30, .pick (.tmp 25) (.const (.bool true)) (.tmp 29), none⟩]) (
        .cond (.tmp 30) (
          .seq (
            .region [
              ⟨some 31, .call (.fn 2) [], none⟩,
              ⟨some 6, .mov (.tmp 31), none⟩]) (
            .ret)) (
          .skip))) (
      .seq (
        .region [
          ⟨some 32, .mov (.tmp 0), none⟩,
          ⟨some 33, .call (.fn 15) [(.tmp 32)], none⟩,
          ⟨some 34, .mov (.tmp 0), none⟩,
          ⟨some 35, .call (.fn 15) [(.tmp 34)], none⟩,
          ⟨some 7, .mov (.tmp 33), none⟩,
          ⟨some 8, .mov (.tmp 35), none⟩]) (
        .seq (
          .region [
            ⟨some 37, .mov (.tmp 7), none⟩,
            ⟨some 38, .mov (.tmp 1), none⟩,
            ⟨some 39, .call (.fn 10) [(.tmp 37), (.tmp 38)], none⟩,
            ⟨some 36, .mov (.tmp 39), none⟩,
            ⟨some 40, .ext 0 (.tmp 36), none⟩,
            ⟨some 41, .ext 1 (.tmp 36), none⟩,
            ⟨some 42, .ext 2 (.tmp 36), none⟩,
            ⟨some 9, .mov (.tmp 40), none⟩,
            ⟨some 10, .mov (.tmp 41), none⟩,
            ⟨some 11, .mov (.tmp 42), none⟩]) (
          .seq (
            .region [
              ⟨some 44, .mov (.tmp 8), none⟩,
              ⟨some 45, .mov (.tmp 1), none⟩,
              ⟨some 46, .mov (.tmp 2), none⟩,
              ⟨some 47, .slc 1 (.tmp 45) none (some (.tmp 46)) none, none⟩,
              ⟨some 48, .call (.fn 10) [(.tmp 44), (.tmp 47)], none⟩,
              ⟨some 43, .mov (.tmp 48), none⟩,
              ⟨some 49, .ext 0 (.tmp 43), none⟩,
              ⟨some 50, .ext 1 (.tmp 43), none⟩,
              ⟨some 51, .ext 2 (.tmp 43), none⟩,
              ⟨some 12, .mov (.tmp 49), none⟩,
              ⟨some 13, .mov (.tmp 50), none⟩,
              ⟨some 14, .mov (.tmp 51), none⟩]) (
            .seq (
              .seq (
                .region [
                  ⟨some 52, .mov (.tmp 13), none⟩,
                  ⟨some 53, .un .not (.tmp 52), none⟩]) (
                .cond (.tmp 53) (
                  .seq (
                    .region [
                      ⟨some 55, .mov (.tmp 8), none⟩,
                      ⟨some 56, .mov (.tmp 1), none⟩,
                      ⟨some 57, .mov (.tmp 2), none⟩,
                      ⟨some 58, .slc 1 (.tmp 56) (some (.tmp 57)) none none, none⟩,
                      ⟨some 59, .call (.fn 10) [(.tmp 55), (.tmp 58)], none⟩,
                      ⟨some 54, .mov (.tmp 59), none⟩,
                      ⟨some 60, .ext 0 (.tmp 54), none⟩,
                      ⟨some 61, .ext 1 (.tmp 54), none⟩,
                      ⟨some 62, .ext 2 (.tmp 54), none⟩,
                      ⟨some 15, .mov (.tmp 60), none⟩,
                      ⟨some 16, .mov (.tmp 61), none⟩,
                      ⟨some 17, .mov (.tmp 62), none⟩]) (
                    .region [
                      ⟨some 63, .mov (.tmp 12), none⟩,
                      ⟨some 64, .mov (.tmp 15), none⟩,
                      ⟨some 65, .bin .add .no (.tmp 63) (.tmp 64), none⟩,
                      ⟨some 66, .mov (.tmp 16), none⟩,
                      ⟨some 67, .mov (.tmp 17), none⟩,
                      ⟨some 12, .mov (.tmp 65), none⟩,
                      ⟨some 13, .mov (.tmp 66), none⟩,
                      ⟨some 14, .mov (.tmp 67), none⟩])) (
                  .skip))) (
              .seq (
                .region [
                  ⟨some 68, .call (.fn 2) [], none⟩,
                  ⟨some 69, .mov (.tmp 68), none⟩,
                  ⟨some 70, .mov (.tmp 9), some (69, true)⟩,
                  ⟨some 71, .mov (.tmp 12), some (69, true)⟩,
                  ⟨some 72, .bin .eql .no (.tmp 70) (.tmp 71), some (69, true)⟩,
                  ⟨some 73, .pick (.tmp 69) (.tmp 72) (.const (.bool false)), none⟩,
                  ⟨some 74, .mov (.tmp 73), none⟩,
                  ⟨some 75, .mov (.tmp 10), some (74, true)⟩,
                  ⟨some 76, .mov (.tmp 13), some (74, true)⟩,
                  ⟨some 77, .bin .eql .bool (.tmp 75) (.tmp 76), some (74, true)⟩,
                  ⟨some 78, .pick (.tmp 74) (.tmp 77) (.const (.bool false)), none⟩,
                  ⟨some 79, .mov (.tmp 78), none⟩,
                  ⟨some 80, .mov (.tmp 11), some (79, true)⟩,
                  ⟨some 81, .mov (.tmp 14), some (79, true)⟩,
                  ⟨some 82, .bin .eql .no (.tmp 80) (.tmp 81), some (79, true)⟩,
                  ⟨some 83, .pick (.tmp 79) (.tmp 82) (.const (.bool false)), none⟩,
                  ⟨some 84, .mov (.tmp 83), none⟩,
                  ⟨some 85, .mov (.tmp 7), some (84, true)⟩,
                  ⟨some 86, .call (.fn 12) [(.tmp 85)], some (84, true)⟩,
                  ⟨some 87, .cB2S false (.tmp 86), some (84, true)⟩,
                  ⟨some 88, .mov (.tmp 8), some (84, true)⟩,
                  ⟨some 89, .call (.fn 12) [(.tmp 88)], some (84, true)⟩,
                  ⟨some 90, .cB2S false (.tmp 89), some (84, true)⟩,
                  ⟨some 91, .bin .eql .no (.tmp 87) (.tmp 90), some (84, true)⟩,
                  ⟨some 92, .pick (.tmp 84) (.tmp 91) (.const (.bool false)), none⟩,
                  ⟨some 6, .mov (.tmp 92), none⟩]) (
                .ret)))))))) }

/-- posthorn/dots.lines -/
def F_dots_lines : ACFn := { nt := 4, results := [.tmp 2], body := (
  .seq (
    .region [
      ⟨some 1, .box (.tmp 0), none⟩,
      ⟨some 2, .mov (.const (.nilf)), none⟩]) (
    .seq (
      .region [
        ⟨some 3, .mkfn 27 [(.tmp 1)], none⟩,
        ⟨some 2, .mov (.tmp 3), none⟩]) (
      .ret))) }

/-- bytes.CutSuffix -/
def F_bytes_CutSuffix : ACFn := { nt := 18, results := [.tmp 4, .tmp 5], body := (
  .seq (
    .region [
      ⟨some 4, .mov (.const (.nils)), none⟩,
      ⟨some 5, .mov (.const (.bool false)), none⟩]) (
    .seq (
      .seq (
        .region [
          ⟨some 6, .mov (.tmp 0), none⟩,
          ⟨some 7, .mov (.tmp 1), none⟩,
          ⟨some 8, .call (.fn 28) [(.tmp 6), (.tmp 7)], none⟩,
          ⟨some 9, .un .not (.tmp 8), none⟩]) (
        .cond (.tmp 9) (
          .seq (
            .region [
              ⟨some 10, .mov (.tmp 0), none⟩,
              ⟨some 4, .mov (.tmp 10), none⟩,
              ⟨some 5, .mov (.const (.bool false)), none⟩]) (
            .ret)) (
          .skip))) (
      .seq (
        .region [
          ⟨some 11, .mov (.tmp 0), none⟩,
          ⟨some 12, .mov (.tmp 0), none⟩,
          ⟨some 13, .len false (.tmp 12), none⟩,
          ⟨some 14, .mov (.tmp 1), none⟩,
          ⟨some 15, .len false (.tmp 14), none⟩,
          ⟨some 16, .bin .sub .no (.tmp 13) (.tmp 15), none⟩,
          ⟨some 17, .slc 1 (.tmp 11) none (some (.tmp 16)) none, none⟩,
          ⟨some 4, .mov (.tmp 17), none⟩,
          ⟨some 5, .mov (.const (.bool true)), none⟩]) (
        .ret)))) }

/-- posthorn/dots.bare -/
def F_dots_bare : ACFn := { nt := 5, results := [.tmp 2], body := (
  .seq (
    .region [
      ⟨some 2, .mov (.const (.int .i64 0)), none⟩]) (
    .seq (
      .region [
        ⟨some 3, .mov (.tmp 0), none⟩,
        ⟨some 4, .call (.fn 29) [(.tmp 3), (.fn 30)], none⟩,
        ⟨some 2, .mov (.tmp 4), none⟩]) (
      .ret))) }

/-- posthorn/posthornref05.bare -/
def F_posthornref05_bare : ACFn := { nt := 23, results := [.tmp 2], body := (
  .seq (
    .region [
      ⟨some 2, .mov (.const (.int .i64 0)), none⟩]) (
    .seq (
      .seq (
        .region [
          ⟨some 3, .mov (.const (.int .i64 0)), none⟩]) (
        .block 0 (
          .loop (
            .seq (
              .seq (
                .region [
                  ⟨some 4, .mov (.tmp 3), none⟩,
                  ⟨some 5, .mov (.tmp 0), none⟩,
                  ⟨some 6, .len false (.tmp 5), none⟩,
                  ⟨some 7, .bin .lss .no (.tmp 4) (.tmp 6), none⟩]) (
                .cond (.tmp 7) (
                  .skip) (
                  .exit 0))) (
              .seq (
                .block 1 (
                  .seq (
                    .region [
                      ⟨some 10, .mov (.tmp 0), none⟩,
                      ⟨some 11, .mov (.tmp 3), none⟩,
                      ⟨some 12, .iaddr 1 (.tmp 10) (.tmp 11), none⟩,
                      ⟨some 13, .load false 1 (.tmp 12), none⟩,
                      ⟨some 14, .bin .eql .no (.tmp 13) (.const (.b8 13)), none⟩,
                      ⟨some 15, .mov (.tmp 14), none⟩,
                      ⟨some 16, .mov (.tmp 0), some (15, false)⟩,
                      ⟨some 17, .mov (.tmp 3), some (15, false)⟩,
                      ⟨some 18, .iaddr 1 (.tmp 16) (.tmp 17), some (15, false)⟩,
                      ⟨some 19, .load false 1 (.tmp 18), some (15, false)⟩,
                      ⟨some 20, .bin .eql .no (.tmp 19) (.const (.b8 10)), some (15, false)⟩,
                      ⟨some 21, .pick (.tmp 15) (.const (.bool true)) (.tmp 20), none⟩]) (
                    .cond (.tmp 21) (
                      .seq (
                        .region [
                          ⟨some 22, .mov (.tmp 3), none⟩,
                          ⟨some 2, .mov (.tmp 22), none⟩]) (
                        .ret)) (
                      .skip)))) (
                .region [
                  ⟨some 8, .mov (.tmp 3), none⟩,
                  ⟨some 9, .bin .add .no (.tmp 8) (.const (.int .i64 1)), none⟩,
                  ⟨some 3, .mov (.tmp 9), none⟩])))))) (
      .seq (
        .region [
          ⟨some 2, .mov (.const (.int .i64 (-1))), none⟩]) (
        .ret)))) }

/-- posthorn/posthornref03.Pair -/
def F_posthornref03_Pair : ACFn := { nt := 25, results := [.tmp 4], body := (
  .seq (
    .region [
      ⟨some 4, .mov (.const (.bool false)), none⟩]) (
    .seq (
      .region [
        ⟨some 5, .mov (.tmp 1), none⟩,
        ⟨some 6, .bin .add .no (.tmp 5) (.const (.int .i64 1)), none⟩,
        ⟨some 7, .mov (.tmp 0), none⟩,
        ⟨some 8, .len false (.tmp 7), none⟩,
        ⟨some 9, .bin .lss .no (.tmp 6) (.tmp 8), none⟩,
        ⟨some 10, .mov (.tmp 9), none⟩,
        ⟨some 11, .mov (.tmp 0), some (10, true)⟩,
        ⟨some 12, .mov (.tmp 1), some (10, true)⟩,
        ⟨some 13, .iaddr 1 (.tmp 11) (.tmp 12), some (10, true)⟩,
        ⟨some 14, .load false 1 (.tmp 13), some (10, true)⟩,
        ⟨some 15, .bin .eql .no (.tmp 14) (.const (.b8 13)), some (10, true)⟩,
        ⟨some 16, .pick (.tmp 10) (.tmp 15) (.const (.bool false)), none⟩,
        ⟨some 17, .mov (.tmp 16), none⟩,
        ⟨some 18, .mov (.tmp 0), some (17, true)⟩,
        ⟨some 19, .mov (.tmp 1), some (17, true)⟩,
        ⟨some 20, .bin .add .no (.tmp 19) (.const (.int .i64 1)), some (17, true)⟩,
        ⟨some 21, .iaddr 1 (.tmp 18) (.tmp 20), some (17, true)⟩,
        ⟨some 22, .load false 1 (.tmp 21), some (17, true)⟩,
        ⟨some 23, .bin .eql .no (.tmp 22) (.const (.b8 10)), some (17, true)⟩,
        ⟨some 24, .pick (.tmp 17) (.tmp 23) (.const (.bool false)), none⟩,
        ⟨some 4, .mov (.tmp 24), none⟩]) (
      .ret))) }

/-- (*posthorn/dots.Reader).fault -/
def F_P_dots_Reader_fault : ACFn := { nt := 18, results := [.tmp 2], body := (
  .seq (
    .region [
      ⟨some 2, .mov (.const (.int .i64 0)), none⟩]) (
    .seq (
      .block 0 (
        .seq (
          .region [
            ⟨some 4, .mov (.tmp 0), none⟩,
            ⟨some 5, .nilck (.tmp 4), none⟩,
            ⟨some 6, .faddr 3 (.tmp 5), none⟩,
            ⟨some 7, .load false 1 (.tmp 6), none⟩,
            ⟨some 3, .mov (.tmp 7), none⟩]) (
          .cond (.tmp 3) (
            .seq (
              .region [
                ⟨some 2, .mov (.const (.int .i64 41)), none⟩]) (
              .ret)) (
            .seq (
              .region [
                ⟨some 9, .mov (.tmp 0), none⟩,
                ⟨some 10, .nilck (.tmp 9), none⟩,
                ⟨some 11, .faddr 4 (.tmp 10), none⟩,
                ⟨some 12, .load false 1 (.tmp 11), none⟩,
                ⟨some 8, .mov (.tmp 12), none⟩]) (
              .cond (.tmp 8) (
                .seq (
                  .region [
                    ⟨some 2, .mov (.const (.int .i64 40)), none⟩]) (
                  .ret)) (
                .seq (
                  .region [
                    ⟨some 14, .mov (.tmp 0), none⟩,
                    ⟨some 15, .nilck (.tmp 14), none⟩,
                    ⟨some 16, .faddr 5 (.tmp 15), none⟩,
                    ⟨some 17, .load false 1 (.tmp 16), none⟩,
                    ⟨some 13, .mov (.tmp 17), none⟩]) (
                  .cond (.tmp 13) (
                    .seq (
                      .region [
                        ⟨some 2, .mov (.const (.int .i64 2)), none⟩]) (
                      .ret)) (
                    .skip)))))))) (
      .seq (
        .region [
          ⟨some 2, .mov (.const (.int .i64 0)), none⟩]) (
        .ret)))) }

/-- (*posthorn/dots.Reader).take -/
def F_P_dots_Reader_take : ACFn := { nt := 85, results := [], body := (
  .seq (
    .region [
      ⟨some 4, .mov (.tmp 0), none⟩,
      ⟨some 5, .mov (.tmp 0), none⟩,
      ⟨some 6, .nilck (.tmp 5), none⟩,
      ⟨some 7, .faddr 3 (.tmp 6), none⟩,
      ⟨some 8, .load false 1 (.tmp 7), none⟩,
      ⟨some 9, .mov (.tmp 8), none⟩,
      ⟨some 10, .mov (.tmp 1), some (9, false)⟩,
      ⟨some 11, .call (.fn 20) [(.tmp 10)], some (9, false)⟩,
      ⟨some 12, .bin .geq .no (.tmp 11) (.const (.int .i64 0)), some (9, false)⟩,
      ⟨some 13, .pick (.tmp 9) (.const (.bool true)) (.tmp 12), none⟩,
      ⟨some 14, .nilck (.tmp 4), none⟩,
      ⟨some 15, .faddr 3 (.tmp 14), none⟩,
      ⟨none, .store 1 (.tmp 15) (.tmp 13), none⟩]) (
    .seq (
      .region [
        ⟨some 16, .mov (.tmp 0), none⟩,
        ⟨some 17, .mov (.tmp 0), none⟩,
        ⟨some 18, .nilck (.tmp 17), none⟩,
        ⟨some 19, .faddr 4 (.tmp 18), none⟩,
        ⟨some 20, .load false 1 (.tmp 19), none⟩,
        ⟨some 21, .mov (.tmp 20), none⟩,
        ⟨some 22, .mov (.tmp 1), some (21, false)⟩,
        ⟨some 23, .len false (.tmp 22), some (21, false)⟩,
        ⟨some 24, .bin .gtr .no (.tmp 23) (.const (.int .i64 999)), some (21, false)⟩,
        ⟨some 25, .pick (.tmp 21) (.const (.bool true)) (.tmp 24), none⟩,
        ⟨some 26, .nilck (.tmp 16), none⟩,
        ⟨some 27, .faddr 4 (.tmp 26), none⟩,
        ⟨none, .store 1 (.tmp 27) (.tmp 25), none⟩]) (
      .seq (
        .region [
          ⟨some 29, .mov (.tmp 1), none⟩,
          ⟨some 30, .lit8 1 [(0, (.const (.b8 46)))], none⟩,
          ⟨some 31, .cSame (.tmp 30), none⟩,
          ⟨some 32, .call (.fn 31) [(.tmp 29), (.tmp 31)], none⟩,
          ⟨some 28, .mov (.tmp 32), none⟩,
          ⟨some 33, .ext 0 (.tmp 28), none⟩,
          ⟨some 34, .ext 1 (.tmp 28), none⟩,
          ⟨some 1, .mov (.tmp 33), none⟩]) (
        .seq (
          .region [
            ⟨some 35, .mov (.tmp 0), none⟩,
            ⟨some 36, .mov (.tmp 0), none⟩,
            ⟨some 37, .nilck (.tmp 36), none⟩,
            ⟨some 38, .faddr 4 (.tmp 37), none⟩,
            ⟨some 39, .load false 1 (.tmp 38), none⟩,
            ⟨some 40, .mov (.tmp 39), none⟩,
            ⟨some 41, .mov (.tmp 1), some (40, false)⟩,
            ⟨some 42, .len false (.tmp 41), some (40, false)⟩,
            ⟨some 43, .bin .gtr .no (.tmp 42) (.const (.int .i64 998)), some (40, false)⟩,
            ⟨some 44, .pick (.tmp 40) (.const (.bool true)) (.tmp 43), none⟩,
            ⟨some 45, .nilck (.tmp 35), none⟩,
            ⟨some 46, .faddr 4 (.tmp 45), none⟩,
            ⟨none, .store 1 (.tmp 46) (.tmp 44), none⟩]) (
          .seq (
            .region [
              ⟨some 47, .mov (.tmp 0), none⟩,
              ⟨some 48, .mov (.tmp 0), none⟩,
              ⟨some 49, .nilck (.tmp 48), none⟩,
              ⟨some 50, .faddr 5 (.tmp 49), none⟩,
              ⟨some 51, .load false 1 (.tmp 50), none⟩,
              ⟨some 52, .mov (.tmp 51), none⟩,
              ⟨some 53, .mov (.tmp 1), some (52, false)⟩,
              ⟨some 54, .len false (.tmp 53), some (52, false)⟩,
              ⟨some 55, .bin .add .no (.tmp 54) (.const (.int .i64 2)), some (52, false)⟩,
              ⟨some 56, .mov (.tmp 0), some (52, false)⟩,
              ⟨some 57, .nilck (.tmp 56), some (52, false)⟩,
              ⟨some 58, .faddr 0 (.tmp 57), some (52, false)⟩,
              ⟨some 59, .load false 1 (.tmp 58), some (52, false)⟩,
              ⟨some 60, .mov (.tmp 0), some (52, false)⟩,
              ⟨some 61, .nilck (.tmp 60), some (52, false)⟩,
              ⟨some 62, .faddr 2 (.tmp 61), some (52, false)⟩,
              ⟨some 63, .load false 1 (.tmp 62), some (52, false)⟩,
              ⟨some 64, .len false (.tmp 63), some (52, false)⟩,
              ⟨some 65, .bin .sub .no (.tmp 59) (.tmp 64), some (52, false)⟩,
              ⟨some 66, .bin .gtr .no (.tmp 55) (.tmp 65), some (52, false)⟩,
              ⟨some 67, .pick (.tmp 52) (.const (.bool true)) (.tmp 66), none⟩,
              ⟨some 68, .nilck (.tmp 47), none⟩,
              ⟨some 69, .faddr 5 (.tmp 68), none⟩,
              ⟨none, .store 1 (.tmp 69) (.tmp 67), none⟩]) (
            .seq (
              .region [
                ⟨some 70, .mov (.tmp 0), none⟩,
                ⟨some 71, .nilck (.tmp 70), none⟩,
                ⟨some 72, .faddr 5 (.tmp 71), none⟩,
                ⟨some 73, .load false 1 (.tmp 72), none⟩,
                ⟨some 74, .un .not (.tmp 73), none⟩]) (
              .cond (.tmp 74) (
                .region [
                  ⟨some 75, .mov (.tmp 0), none⟩,
                  ⟨some 76, .mov (.tmp 0), none⟩,
                  ⟨some 77, .nilck (.tmp 76), none⟩,
                  ⟨some 78, .faddr 2 (.tmp 77), none⟩,
                  ⟨some 79, .load false 1 (.tmp 78), none⟩,
                  ⟨some 80, .mov (.tmp 1), none⟩,
                  ⟨some 81, .app true 1 (.tmp 79) (.tmp 80), none⟩,
                  ⟨some 82, .app true 1 (.tmp 81) (.const (.str [13, 10])), none⟩,
                  ⟨some 83, .nilck (.tmp 75), none⟩,
                  ⟨some 84, .faddr 2 (.tmp 83), none⟩,
                  ⟨none, .store 1 (.tmp 84) (.tmp 82), none⟩]) (
                .skip)))))))) }

/-- posthorn/posthornref05.fault -/
def F_posthornref05_fault : ACFn := { nt := 10, results := [.tmp 6], body := (
  .seq (
    .region [
      ⟨some 6, .mov (.const (.int .i64 0)), none⟩]) (
    .seq (
      .seq (
        .region [
          ⟨some 7, .mov (.tmp 0), none⟩]) (
        .cond (.tmp 7) (
          .seq (
            .region [
              ⟨some 6, .mov (.const (.int .i64 41)), none⟩]) (
            .ret)) (
          .skip))) (
      .seq (
        .seq (
          .region [
            ⟨some 8, .mov (.tmp 1), none⟩]) (
          .cond (.tmp 8) (
            .seq (
              .region [
                ⟨some 6, .mov (.const (.int .i64 40)), none⟩]) (
              .ret)) (
            .skip))) (
        .seq (
          .seq (
            .region [
              ⟨some 9, .mov (.tmp 2), none⟩]) (
            .cond (.tmp 9) (
              .seq (
                .region [
                  ⟨some 6, .mov (.const (.int .i64 2)), none⟩]) (
                .ret)) (
              .skip))) (
          .seq (
            .region [
              ⟨some 6, .mov (.const (.int .i64 0)), none⟩]) (
            .ret)))))) }

/-- slices.Clone[[]byte,byte] -/
def F_slices_Clone_s_byte_byte : ACFn := { nt := 8, results := [.tmp 2], body := (
  .seq (
    .region [
      ⟨some 2, .mov (.const (.nils)), none⟩]) (
    .seq (
      .seq (
        .region [
          ⟨some 3, .mov (.tmp 0), none⟩,
          ⟨some 4, .bin .eql .slice (.tmp 3) (.const (.nils)), none⟩]) (
        .cond (.tmp 4) (
          .seq (
            .region [
              ⟨some 2, .mov (.const (.nils)), none⟩]) (
            .ret)) (
          .skip))) (
      .seq (
        .region [
          ⟨some 5, .lit8 0 [], none⟩,
          ⟨some 6, .mov (.tmp 0), none⟩,
          ⟨some 7, .app true 1 (.tmp 5) (.tmp 6), none⟩,
          ⟨some 2, .mov (.tmp 7), none⟩]) (
        .ret)))) }

/-- posthorn/dots.lines$1 -/
def F_dots_lines_c1 : ACFn := { nt := 38, results := [], body := (
  .seq (
    .region [
      ⟨some 3, .mov (.const (.int .i64 0)), none⟩]) (
    .block 0 (
      .loop (
        .seq (
          .seq (
            .region [
              ⟨some 5, .mov (.tmp 3), none⟩,
              ⟨some 6, .load false 1 (.tmp 1), none⟩,
              ⟨some 7, .len false (.tmp 6), none⟩,
              ⟨some 8, .bin .lss .no (.tmp 5) (.tmp 7), none⟩]) (
            .cond (.tmp 8) (
              .skip) (
              .exit 0))) (
          .block 1 (
            .seq (
              .region [
                ⟨some 9, .load false 1 (.tmp 1), none⟩,
                ⟨some 10, .mov (.tmp 3), none⟩,
                ⟨some 11, .slc 1 (.tmp 9) (some (.tmp 10)) none none, none⟩,
                ⟨some 12, .lit8 2 [(0, (.const (.b8 13))), (1, (.const (.b8 10)))], none⟩,
                ⟨some 13, .cSame (.tmp 12), none⟩,
                ⟨some 14, .call (.fn 32) [(.tmp 11), (.tmp 13)], none⟩,
                ⟨some 4, .mov (.tmp 14), none⟩]) (
              .seq (
                .seq (
                  .region [
                    ⟨some 15, .mov (.tmp 4), none⟩,
                    ⟨some 16, .bin .lss .no (.tmp 15) (.const (.int .i64 0)), none⟩]) (
                  .cond (.tmp 16) (
                    .seq (
                      .region [
                        ⟨some 17, .mov (.tmp 0), none⟩,
                        ⟨some 18, .mov (.tmp 3), none⟩,
                        ⟨some 19, .load false 1 (.tmp 1), none⟩,
                        ⟨some 20, .mov (.tmp 3), none⟩,
                        ⟨some 21, .slc 1 (.tmp 19) (some (.tmp 20)) none none, none⟩,
                        ⟨some 22, .call (.tmp 17) [(.tmp 18), (.tmp 21)], none⟩]) (
                      .ret)) (
                    .skip))) (
                .seq (
                  .seq (
                    .region [
                      ⟨some 23, .mov (.tmp 0), none⟩,
                      ⟨some 24, .mov (.tmp 3), none⟩,
                      ⟨some 25, .load false 1 (.tmp 1), none⟩,
                      ⟨some 26, .mov (.tmp 3), none⟩,
                      ⟨some 27, .mov (.tmp 3), none⟩,
                      ⟨some 28, .mov (.tmp 4), none⟩,
                      ⟨some 29, .bin .add .no (.tmp 27) (.tmp 28), none⟩,
                      ⟨some 30, .bin .add .no (.tmp 29) (.const (.int .i64 2)), none⟩,
                      ⟨some 31, .slc 1 (.tmp 25) (some (.tmp 26)) (some (.tmp 30)) none, none⟩,
                      ⟨some 32, .call (.tmp 23) [(.tmp 24), (.tmp 31)], none⟩,
                      ⟨some 33, .un .not (.tmp 32), none⟩]) (
                    .cond (.tmp 33) (
                      .ret) (
                      .skip))) (
                  .region [
                    ⟨some 34, .mov (.tmp 3), none⟩,
                    ⟨some 35, .mov (.tmp 4), none⟩,
                    ⟨some 36, .bin .add .no (.tmp 35) (.const (.int .i64 2)), none⟩,
                    ⟨some 37, .bin .add .no (.tmp 34) (.tmp 36), none⟩,
                    ⟨some 3, .mov (.tmp 37), none⟩]))))))))) }

/-- bytes.HasSuffix -/
def F_bytes_HasSuffix : ACFn := { nt := 21, results := [.tmp 4], body := (
  .seq (
    .region [
      ⟨some 4, .mov (.const (.bool false)), none⟩]) (
    .seq (
      .region [
        ⟨some 5, .mov (.tmp 0), none⟩,
        ⟨some 6, .len false (.tmp 5), none⟩,
        ⟨some 7, .mov (.tmp 1), none⟩,
        ⟨some 8, .len false (.tmp 7), none⟩,
        ⟨some 9, .bin .geq .no (.tmp 6) (.tmp 8), none⟩,
        ⟨some 10, .mov (.tmp 9), none⟩,
        ⟨some 11, .mov (.tmp 0), some (10, true)⟩,
        ⟨some 12, .mov (.tmp 0), some (10, true)⟩,
        ⟨some 13, .len false (.tmp 12), some (10, true)⟩,
        ⟨some 14, .mov (.tmp 1), some (10, true)⟩,
        ⟨some 15, .len false (.tmp 14), some (10, true)⟩,
        ⟨some 16, .bin .sub .no (.tmp 13) (.tmp 15), some (10, true)⟩,
        ⟨some 17, .slc 1 (.tmp 11) (some (.tmp 16)) none none, some (10, true)⟩,
        ⟨some 18, .mov (.tmp 1), some (10, true)⟩,
        ⟨some 19, .call (.fn 34) [(.tmp 17), (.tmp 18)], some (10, true)⟩,
        ⟨some 20, .pick (.tmp 10) (.tmp 19) (.const (.bool false)), none⟩,
        ⟨some 4, .mov (.tmp 20), none⟩]) (
      .ret))) }

/-- slices.IndexFunc[[]byte,byte] -/
def F_slices_IndexFunc_s_byte_byte : ACFn := { nt := 19, results := [.tmp 4], body := (
  .seq (
    .region [
      ⟨some 4, .mov (.const (.int .i64 0)), none⟩]) (
    .seq (
      .seq (
        .region [
          ⟨some 6, .mov (.tmp 0), none⟩,
          ⟨some 7, .len false (.tmp 6), none⟩,
          ⟨some 8, .mov (.const (.int .i64 0)), none⟩]) (
        .block 0 (
          .loop (
            .seq (
              .region [
                ⟨some 9, .bin .lss .no (.tmp 8) (.tmp 7), none⟩]) (
              .seq (
                .cond (.tmp 9) (
                  .skip) (
                  .exit 0)) (
                .seq (
                  .block 1 (
                    .seq (
                      .region [
                        ⟨some 10, .mov (.tmp 8), none⟩,
                        ⟨some 5, .mov (.tmp 10), none⟩]) (
                      .seq (
                        .region [
                          ⟨some 11, .mov (.tmp 1), none⟩,
                          ⟨some 12, .mov (.tmp 0), none⟩,
                          ⟨some 13, .mov (.tmp 5), none⟩,
                          ⟨some 14, .iaddr 1 (.tmp 12) (.tmp 13), none⟩,
                          ⟨some 15, .load false 1 (.tmp 14), none⟩,
                          ⟨some 16, .call (.tmp 11) [(.tmp 15)], none⟩]) (
                        .cond (.tmp 16) (
                          .seq (
                            .region [
                              ⟨some 17, .mov (.tmp 5), none⟩,
                              ⟨some 4, .mov (.tmp 17), none⟩]) (
                            .ret)) (
                          .skip))))) (
                  .region [
                    ⟨some 18, .bin .add .no (.tmp 8) (.const (.int .i64 1)), none⟩,
                    ⟨some 8, .mov (.tmp 18), none⟩]))))))) (
      .seq (
        .region [
          ⟨some 4, .mov (.const (.int .i64 (-1))), none⟩]) (
        .ret)))) }

/-- posthorn/dots.bare$1 -/
def F_dots_bare_c1 : ACFn := { nt := 9, results := [.tmp 2], body := (
  .seq (
    .region [
      ⟨some 2, .mov (.const (.bool false)), none⟩]) (
    .seq (
      .region [
        ⟨some 3, .mov (.tmp 0), none⟩,
        ⟨some 4, .bin .eql .no (.tmp 3) (.const (.b8 13)), none⟩,
        ⟨some 5, .mov (.tmp 4), none⟩,
        ⟨some 6, .mov (.tmp 0), some (5, false)⟩,
        ⟨some 7, .bin .eql .no (.tmp 6) (.const (.b8 10)), some (5, false)⟩,
        ⟨some 8, .pick (.tmp 5) (.const (.bool true)) (.tmp 7), none⟩,
        ⟨some 2, .mov (.tmp 8), none⟩]) (
      .ret))) }

/-- bytes.CutPrefix -/
def F_bytes_CutPrefix : ACFn := { nt := 15, results := [.tmp 4, .tmp 5], body := (
  .seq (
    .region [
      ⟨some 4, .mov (.const (.nils)), none⟩,
      ⟨some 5, .mov (.const (.bool false)), none⟩]) (
    .seq (
      .seq (
        .region [
          ⟨some 6, .mov (.tmp 0), none⟩,
          ⟨some 7, .mov (.tmp 1), none⟩,
          ⟨some 8, .call (.fn 35) [(.tmp 6), (.tmp 7)], none⟩,
          ⟨some 9, .un .not (.tmp 8), none⟩]) (
        .cond (.tmp 9) (
          .seq (
            .region [
              ⟨some 10, .mov (.tmp 0), none⟩,
              ⟨some 4, .mov (.tmp 10), none⟩,
              ⟨some 5, .mov (.const (.bool false)), none⟩]) (
            .ret)) (
          .skip))) (
      .seq (
        .region [
          ⟨some 11, .mov (.tmp 0), none⟩,
          ⟨some 12, .mov (.tmp 1), none⟩,
          ⟨some 13, .len false (.tmp 12), none⟩,
          ⟨some 14, .slc 1 (.tmp 11) (some (.tmp 13)) none none, none⟩,
          ⟨some 4, .mov (.tmp 14), none⟩,
          ⟨some 5, .mov (.const (.bool true)), none⟩]) (
        .ret)))) }

/-- bytes.IndexByte -/
def F_bytes_IndexByte : ACFn := { nt := 8, results := [.tmp 4], body := (
  .seq (
    .region [
      ⟨some 4, .mov (.const (.int .i64 0)), none⟩]) (
    .seq (
      .region [
        ⟨some 5, .mov (.tmp 0), none⟩,
        ⟨some 6, .mov (.tmp 1), none⟩,
        ⟨some 7, .call (.fn 36) [(.tmp 5), (.tmp 6)], none⟩,
        ⟨some 4, .mov (.tmp 7), none⟩]) (
      .ret))) }

/-- bytes.Equal -/
def F_bytes_Equal : ACFn := { nt := 10, results := [.tmp 4], body := (
  .seq (
    .region [
      ⟨some 4, .mov (.const (.bool false)), none⟩]) (
    .seq (
      .region [
        ⟨some 5, .mov (.tmp 0), none⟩,
        ⟨some 6, .cB2S false (.tmp 5), none⟩,
        ⟨some 7, .mov (.tmp 1), none⟩,
        ⟨some 8, .cB2S false (.tmp 7), none⟩,
        ⟨some 9, .bin .eql .no (.tmp 6) (.tmp 8), none⟩,
        ⟨some 4, .mov (.tmp 9), none⟩]) (
      .ret))) }

/-- bytes.HasPrefix -/
def F_bytes_HasPrefix : ACFn := { nt := 18, results := [.tmp 4], body := (
  .seq (
    .region [
      ⟨some 4, .mov (.const (.bool false)), none⟩]) (
    .seq (
      .region [
        ⟨some 5, .mov (.tmp 0), none⟩,
        ⟨some 6, .len false (.tmp 5), none⟩,
        ⟨some 7, .mov (.tmp 1), none⟩,
        ⟨some 8, .len false (.tmp 7), none⟩,
        ⟨some 9, .bin .geq .no (.tmp 6) (.tmp 8), none⟩,
        ⟨some 10, .mov (.tmp 9), none⟩,
        ⟨some 11, .mov (.tmp 0), some (10, true)⟩,
        ⟨some 12, .mov (.tmp 1), some (10, true)⟩,
        ⟨some 13, .len false (.tmp 12), some (10, true)⟩,
        ⟨some 14, .slc 1 (.tmp 11) none (some (.tmp 13)) none, some (10, true)⟩,
        ⟨some 15, .mov (.tmp 1), some (10, true)⟩,
        ⟨some 16, .call (.fn 34) [(.tmp 14), (.tmp 15)], some (10, true)⟩,
        ⟨some 17, .pick (.tmp 10) (.tmp 16) (.const (.bool false)), none⟩,
        ⟨some 4, .mov (.tmp 17), none⟩]) (
      .ret))) }

/-- internal/bytealg.Cutover -/
def F_internal_bytealg_Cutover : ACFn := { nt := 6, results := [.tmp 2], body := (
  .seq (
    .region [
      ⟨some 2, .mov (.const (.int .i64 0)), none⟩]) (
    .seq (
      .region [
        ⟨some 3, .mov (.tmp 0), none⟩,
        ⟨some 4, .bin .add .no (.tmp 3) (.const (.int .i64 16)), none⟩,
        ⟨some 5, .bin .quo .no (.tmp 4) (.const (.int .i64 8)), none⟩,
        ⟨some 2, .mov (.tmp 5), none⟩]) (
      .ret))) }

/-- internal/bytealg.hashStr[[]byte] -/
def F_internal_bytealg_hashStr_s_byte : ACFn := { nt := 40, results := [.tmp 2, .tmp 3], body := (
  .seq (
    .region [
      ⟨some 2, .mov (.const (.int .u32 0)), none⟩,
      ⟨some 3, .mov (.const (.int .u32 0)), none⟩]) (
    .seq (
      .region [
        ⟨some 4, .mov (.const (.int .u32 0)), none⟩]) (
      .seq (
        .seq (
          .region [
            ⟨some 5, .mov (.const (.int .i64 0)), none⟩]) (
          .block 0 (
            .loop (
              .seq (
                .seq (
                  .region [
                    ⟨some 9, .mov (.tmp 5), none⟩,
                    ⟨some 10, .mov (.tmp 0), none⟩,
                    ⟨some 11, .len false (.tmp 10), none⟩,
                    ⟨some 12, .bin .lss .no (.tmp 9) (.tmp 11), none⟩]) (
                  .cond (.tmp 12) (
                    .skip) (
                    .exit 0))) (
                .seq (
                  .block 1 (
                    .region [
                      ⟨some 15, .mov (.tmp 4), none⟩,
                      ⟨some 16, .bin .mul .no (.tmp 15) (.const (.int .u32 16777619)), none⟩,
                      ⟨some 17, .mov (.tmp 0), none⟩,
                      ⟨some 18, .mov (.tmp 5), none⟩,
                      ⟨some 19, .iaddr 1 (.tmp 17) (.tmp 18), none⟩,
                      ⟨some 20, .load false 1 (.tmp 19), none⟩,
                      ⟨some 21, .cInt .u32 (.tmp 20), none⟩,
                      ⟨some 22, .bin .add .no (.tmp 16) (.tmp 21), none⟩,
                      ⟨some 4, .mov (.tmp 22), none⟩])) (
                  .region [
                    ⟨some 13, .mov (.tmp 5), none⟩,
                    ⟨some 14, .bin .add .no (.tmp 13) (.const (.int .i64 1)), none⟩,
                    ⟨some 5, .mov (.tmp 14), none⟩])))))) (
        .seq (
          .region [
            ⟨some 6, .mov (.const (.int .u32 1)), none⟩,
            ⟨some 7, .mov (.const (.int .u32 16777619)), none⟩]) (
          .seq (
            .seq (
              .region [
                ⟨some 23, .mov (.tmp 0), none⟩,
                ⟨some 24, .len false (.tmp 23), none⟩,
                ⟨some 8, .mov (.tmp 24), none⟩]) (
              .block 2 (
                .loop (
                  .seq (
                    .seq (
                      .region [
                        ⟨some 25, .mov (.tmp 8), none⟩,
                        ⟨some 26, .bin .gtr .no (.tmp 25) (.const (.int .i64 0)), none⟩]) (
                      .cond (.tmp 26) (
                        .skip) (
                        .exit 2))) (
                    .seq (
                      .block 3 (
                        .seq (
                          .seq (
                            .region [
                              ⟨some 29, .mov (.tmp 8), none⟩,
                              ⟨some 30, .bin .and .no (.tmp 29) (.const (.int .i64 1)), none⟩,
                              ⟨some 31, .bin .neq .no (.tmp 30) (.const (.int .i64 0)), none⟩]) (
                            .cond (.tmp 31) (
                              .region [
                                ⟨some 32, .mov (.tmp 6), none⟩,
                                ⟨some 33, .mov (.tmp 7), none⟩,
                                ⟨some 34, .bin .mul .no (.tmp 32) (.tmp 33), none⟩,
                                ⟨some 6, .mov (.tmp 34), none⟩]) (
                              .skip))) (
                          .region [
                            ⟨some 35, .mov (.tmp 7), none⟩,
                            ⟨some 36, .mov (.tmp 7), none⟩,
                            ⟨some 37, .bin .mul .no (.tmp 35) (.tmp 36), none⟩,
                            ⟨some 7, .mov (.tmp 37), none⟩]))) (
                      .region [
                        ⟨some 27, .mov (.tmp 8), none⟩,
                        ⟨some 28, .bin .shr .no (.tmp 27) (.const (.int .u64 1)), none⟩,
                        ⟨some 8, .mov (.tmp 28), none⟩])))))) (
            .seq (
              .region [
                ⟨some 38, .mov (.tmp 4), none⟩,
                ⟨some 39, .mov (.tmp 6), none⟩,
                ⟨some 2, .mov (.tmp 38), none⟩,
                ⟨some 3, .mov (.tmp 39), none⟩]) (
              .ret))))))) }

/-- internal/bytealg.IndexRabinKarp[[]byte] -/
def F_internal_bytealg_IndexRabinKarp_s_byte : ACFn := { nt := 88, results := [.tmp 4], body := (
  .seq (
    .region [
      ⟨some 4, .mov (.const (.int .i64 0)), none⟩]) (
    .seq (
      .region [
        ⟨some 12, .mov (.tmp 1), none⟩,
        ⟨some 13, .call (.fn 38) [(.tmp 12)], none⟩,
        ⟨some 11, .mov (.tmp 13), none⟩,
        ⟨some 14, .ext 0 (.tmp 11), none⟩,
        ⟨some 15, .ext 1 (.tmp 11), none⟩,
        ⟨some 5, .mov (.tmp 14), none⟩,
        ⟨some 6, .mov (.tmp 15), none⟩]) (
      .seq (
        .region [
          ⟨some 16, .mov (.tmp 1), none⟩,
          ⟨some 17, .len false (.tmp 16), none⟩,
          ⟨some 7, .mov (.tmp 17), none⟩]) (
        .seq (
          .region [
            ⟨some 8, .mov (.const (.int .u32 0)), none⟩]) (
          .seq (
            .seq (
              .region [
                ⟨some 9, .mov (.const (.int .i64 0)), none⟩]) (
              .block 0 (
                .loop (
                  .seq (
                    .seq (
                      .region [
                        ⟨some 18, .mov (.tmp 9), none⟩,
                        ⟨some 19, .mov (.tmp 7), none⟩,
                        ⟨some 20, .bin .lss .no (.tmp 18) (.tmp 19), none⟩]) (
                      .cond (.tmp 20) (
                        .skip) (
                        .exit 0))) (
                    .seq (
                      .block 1 (
                        .region [
                          ⟨some 23, .mov (.tmp 8), none⟩,
                          ⟨some 24, .bin .mul .no (.tmp 23) (.const (.int .u32 16777619)), none⟩,
                          ⟨some 25, .mov (.tmp 0), none⟩,
                          ⟨some 26, .mov (.tmp 9), none⟩,
                          ⟨some 27, .iaddr 1 (.tmp 25) (.tmp 26), none⟩,
                          ⟨some 28, .load false 1 (.tmp 27), none⟩,
                          ⟨some 29, .cInt .u32 (.tmp 28), none⟩,
                          ⟨some 30, .bin .add .no (.tmp 24) (.tmp 29), none⟩,
                          ⟨some 8, .mov (.tmp 30), none⟩])) (
                      .region [
                        ⟨some 21, .mov (.tmp 9), none⟩,
                        ⟨some 22, .bin .add .no (.tmp 21) (.const (.int .i64 1)), none⟩,
                        ⟨some 9, .mov (.tmp 22), none⟩])))))) (
            .seq (
              .seq (
                .region [
                  ⟨some 31, .mov (.tmp 8), none⟩,
                  ⟨some 32, .mov (.tmp 5), none⟩,
                  ⟨some 33, .bin .eql .no (.tmp 31) (.tmp 32), none⟩,
                  ⟨some 34, .mov (.tmp 33), none⟩,
                  ⟨some 35, .mov (.tmp 0), some (34, true)⟩,
                  ⟨some 36, .mov (.tmp 7), some (34, true)⟩,
                  ⟨some 37, .slc 1 (.tmp 35) none (some (.tmp 36)) none, some (34, true)⟩,
                  ⟨some 38, .cB2S false (.tmp 37), some (34, true)⟩,
                  ⟨some 39, .mov (.tmp 1), some (34, true)⟩,
                  ⟨some 40, .cB2S false (.tmp 39), some (34, true)⟩,
                  ⟨some 41, .bin .eql .no (.tmp 38) (.tmp 40), some (34, true)⟩,
                  ⟨some 42, .pick (.tmp 34) (.tmp 41) (.const (.bool false)), none⟩]) (
                .cond (.tmp 42) (
                  .seq (
                    .region [
                      ⟨some 4, .mov (.const (.int .i64 0)), none⟩]) (
                    .ret)) (
                  .skip))) (
              .seq (
                .seq (
                  .region [
                    ⟨some 43, .mov (.tmp 7), none⟩,
                    ⟨some 10, .mov (.tmp 43), none⟩]) (
                  .block 2 (
                    .loop (
                      .seq (
                        .seq (
                          .region [
                            ⟨some 44, .mov (.tmp 10), none⟩,
                            ⟨some 45, .mov (.tmp 0), none⟩,
                            ⟨some 46, .len false (.tmp 45), none⟩,
                            ⟨some 47, .bin .lss .no (.tmp 44) (.tmp 46), none⟩]) (
                          .cond (.tmp 47) (
                            .skip) (
                            .exit 2))) (
                        .block 3 (
                          .seq (
                            .region [
                              ⟨some 48, .mov (.tmp 8), none⟩,
                              ⟨some 49, .bin .mul .no (.tmp 48) (.const (.int .u32 16777619)), none⟩,
                              ⟨some 8, .mov (.tmp 49), none⟩]) (
                            .seq (
                              .region [
                                ⟨some 50, .mov (.tmp 8), none⟩,
                                ⟨some 51, .mov (.tmp 0), none⟩,
                                ⟨some 52, .mov (.tmp 10), none⟩,
                                ⟨some 53, .iaddr 1 (.tmp 51) (.tmp 52), none⟩,
                                ⟨some 54, .load false 1 (.tmp 53), none⟩,
                                ⟨some 55, .cInt .u32 (.tmp 54), none⟩,
                                ⟨some 56, .bin .add .no (.tmp 50) (.tmp 55), none⟩,
                                ⟨some 8, .mov (.tmp 56), none⟩]) (
                              .seq (
                                .region [
                                  ⟨some 57, .mov (.tmp 8), none⟩,
                                  ⟨some 58, .mov (.tmp 6), none⟩,
                                  ⟨some 59, .mov (.tmp 0), none⟩,
                                  ⟨some 60, .mov (.tmp 10), none⟩,
                                  ⟨some 61, .mov (.tmp 7), none⟩,
                                  ⟨some 62, .bin .sub .no (.tmp 60) (.tmp 61), none⟩,
                                  ⟨some 63, .iaddr 1 (.tmp 59) (.tmp 62), none⟩,
                                  ⟨some 64, .load false 1 (.tmp 63), none⟩,
                                  ⟨some 65, .cInt .u32 (.tmp 64), none⟩,
                                  ⟨some 66, .bin .mul .no (.tmp 58) (.tmp 65), none⟩,
                                  ⟨some 67, .bin .sub .no (.tmp 57) (.tmp 66), none⟩,
                                  ⟨some 8, .mov (.tmp 67), none⟩]) (
                                .seq (
                                  .region [
                                    ⟨some 68, .mov (.tmp 10), none⟩,
                                    ⟨some 69, .bin .add .no (.tmp 68) (.const (.int .i64 1)), none⟩,
                                    ⟨some 10, .mov (.tmp 69), none⟩]) (
                                  .seq (
                                    .region [
                                      ⟨some 70, .mov (.tmp 8), none⟩,
                                      ⟨some 71, .mov (.tmp 5), none⟩,
                                      ⟨some 72, .bin .eql .no (.tmp 70) (.tmp 71), none⟩,
                                      ⟨some 73, .mov (.tmp 72), none⟩,
                                      ⟨some 74, .mov (.tmp 0), some (73, true)⟩,
                                      ⟨some 75, .mov (.tmp 10), some (73, true)⟩,
                                      ⟨some 76, .mov (.tmp 7), some (73, true)⟩,
                                      ⟨some 77, .bin .sub .no (.tmp 75) (.tmp 76), some (73, true)⟩,
                                      ⟨some 78, .mov (.tmp 10), some (73, true)⟩,
                                      ⟨some 79, .slc 1 (.tmp 74) (some (.tmp 77)) (some (.tmp 78)) none, some (73, true)⟩,
                                      ⟨some 80, .cB2S false (.tmp 79), some (73, true)⟩,
                                      ⟨some 81, .mov (.tmp 1), some (73, true)⟩,
                                      ⟨some 82, .cB2S false (.tmp 81), some (73, true)⟩,
                                      ⟨some 83, .bin .eql .no (.tmp 80) (.tmp 82), some (73, true)⟩,
                                      ⟨some 84, .pick (.tmp 73) (.tmp 83) (.const (.bool false)), none⟩]) (
                                    .cond (.tmp 84) (
                                      .seq (
                                        .region [
                                          ⟨some 85, .mov (.tmp 10), none⟩,
                                          ⟨some 86, .mov (.tmp 7), none⟩,
                                          ⟨some 87, .bin .sub .no (.tmp 85) (.tmp 86), none⟩,
                                          ⟨some 4, .mov (.tmp 87), none⟩]) (
                                        .ret)) (
                                      .skip)))))))))))) (
                .seq (
                  .region [
                    ⟨some 4, .mov (.const (.int .i64 (-1))), none⟩]) (
                  .ret))))))))) }

end Go.Ab
