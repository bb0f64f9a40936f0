/-
  The abstract code of functions, printed by program (abgen.py, abput2.py).
-/
import Derived.Test.YtiiedcmkmnfdiaaA1
import Derived.Test.YtiiedcmkmnfdiaaA2
namespace Go.Ab

/-- posthorn/posthornref05.Lines -/
def F_posthornref05_Lines : ACFn := { nt := 41, results := [.tmp 2], body := (
  .seq (
    .region [
      ⟨some 2, .mov (.const (.nils)), none⟩]) (
    .seq (
      .region [
        ⟨some 3, .mov (.const (.nils)), none⟩]) (
      .seq (
        .region [
          ⟨some 4, .mov (.const (.int .i64 0)), none⟩]) (
        .seq (
          .seq (
            .region [
              ⟨some 5, .mov (.const (.int .i64 0)), none⟩]) (
            .block 0 (
              .loop (
                .seq (
                  .seq (
                    .region [
                      ⟨some 6, .mov (.tmp 5), none⟩,
                      ⟨some 7, .mov (.tmp 0), none⟩,
                      ⟨some 8, .len false (.tmp 7), none⟩,
                      ⟨some 9, .bin .lss .no (.tmp 6) (.tmp 8), none⟩]) (
                    .cond (.tmp 9) (
                      .skip) (
                      .exit 0))) (
                  .seq (
                    .block 1 (
                      .seq (
                        .region [
                          ⟨some 12, .mov (.tmp 0), none⟩,
                          ⟨some 13, .mov (.tmp 5), none⟩,
                          ⟨some 14, .call (.fn 22) [(.tmp 12), (.tmp 13)], none⟩]) (
                        .cond (.tmp 14) (
                          .seq (
                            .region [
                              ⟨some 15, .mov (.tmp 3), none⟩,
                              ⟨some 16, .mov (.tmp 4), none⟩,
                              ⟨some 17, .mov (.tmp 0), none⟩,
                              ⟨some 18, .mov (.tmp 4), none⟩,
                              ⟨some 19, .mov (.tmp 5), none⟩,
                              ⟨some 20, .slc 1 (.tmp 17) (some (.tmp 18)) (some (.tmp 19)) none, none⟩,
                              ⟨some 21, .build [.int .i64 0, .nils, .bool false] [(0, 1, (.tmp 16)), (1, 1, (.tmp 20)), (2, 1, (.const (.bool true)))], none⟩,
                              ⟨some 22, .lit 3 (.agg [.int .i64 0, .nils, .bool false]) 1 [(0, (.tmp 21))], none⟩,
                              ⟨some 23, .app false 3 (.tmp 15) (.tmp 22), none⟩,
                              ⟨some 3, .mov (.tmp 23), none⟩]) (
                            .seq (
                              .region [
                                ⟨some 24, .mov (.tmp 5), none⟩,
                                ⟨some 25, .bin .add .no (.tmp 24) (.const (.int .i64 1)), none⟩,
                                ⟨some 5, .mov (.tmp 25), none⟩]) (
                              .region [
                                ⟨some 26, .mov (.tmp 5), none⟩,
                                ⟨some 27, .bin .add .no (.tmp 26) (.const (.int .i64 1)), none⟩,
                                ⟨some 4, .mov (.tmp 27), none⟩]))) (
                          .skip)))) (
                    .region [
                      ⟨some 10, .mov (.tmp 5), none⟩,
                      ⟨some 11, .bin .add .no (.tmp 10) (.const (.int .i64 1)), none⟩,
                      ⟨some 5, .mov (.tmp 11), none⟩])))))) (
          .seq (
            .seq (
              .region [
                ⟨some 28, .mov (.tmp 4), none⟩,
                ⟨some 29, .mov (.tmp 0), none⟩,
                ⟨some 30, .len false (.tmp 29), none⟩,
                ⟨some 31, .bin .lss .no (.tmp 28) (.tmp 30), none⟩]) (
              .cond (.tmp 31) (
                .region [
                  ⟨some 32, .mov (.tmp 3), none⟩,
                  ⟨some 33, .mov (.tmp 4), none⟩,
                  ⟨some 34, .mov (.tmp 0), none⟩,
                  ⟨some 35, .mov (.tmp 4), none⟩,
                  ⟨some 36, .slc 1 (.tmp 34) (some (.tmp 35)) none none, none⟩,
                  ⟨some 37, .build [.int .i64 0, .nils, .bool false] [(0, 1, (.tmp 33)), (1, 1, (.tmp 36)), (2, 1, (.const (.bool false)))], none⟩,
                  ⟨some 38, .lit 3 (.agg [.int .i64 0, .nils, .bool false]) 1 [(0, (.tmp 37))], none⟩,
                  ⟨some 39, .app false 3 (.tmp 32) (.tmp 38), none⟩,
                  ⟨some 3, .mov (.tmp 39), none⟩]) (
                .skip))) (
            .seq (
              .region [
                ⟨some 40, .mov (.tmp 3), none⟩,
                ⟨some 2, .mov (.tmp 40), none⟩]) (
              .ret))))))) }

/-- posthorn/posthornref03.Pair -/
def F_posthornref03_Pair : ACFn := { nt := 25, results := [.tmp 4], body := (
  .seq (
    .region [
      ⟨some 4, .mov (.const (.bool false)), none⟩]) (
    .seq (
      .region [
        ⟨some 5, .mov (.tmp 1), none⟩,
        ⟨some 6, .bin .add .no (.tmp 5) (.const (.int .i64 1)), none⟩,
        ⟨some 7, .mov (.tmp 0), none⟩,
        ⟨some 8, .len false (.tmp 7), none⟩,
        ⟨some 9, .bin .lss .no (.tmp 6) (.tmp 8), none⟩,
        ⟨some 10, .mov (.tmp 9), none⟩,
        ⟨some 11, .mov (.tmp 0), some (10, true)⟩,
        ⟨some 12, .mov (.tmp 1), some (10, true)⟩,
        ⟨some 13, .iaddr 1 (.tmp 11) (.tmp 12), some (10, true)⟩,
        ⟨some 14, .load false 1 (.tmp 13), some (10, true)⟩,
        ⟨some 15, .bin .eql .no (.tmp 14) (.const (.b8 13)), some (10, true)⟩,
        ⟨some 16, .pick (.tmp 10) (.tmp 15) (.const (.bool false)), none⟩,
        ⟨some 17, .mov (.tmp 16), none⟩,
        ⟨some 18, .mov (.tmp 0), some (17, true)⟩,
        ⟨some 19, .mov (.tmp 1), some (17, true)⟩,
        ⟨some 20, .bin .add .no (.tmp 19) (.const (.int .i64 1)), some (17, true)⟩,
        ⟨some 21, .iaddr 1 (.tmp 18) (.tmp 20), some (17, true)⟩,
        ⟨some 22, .load false 1 (.tmp 21), some (17, true)⟩,
        ⟨some 23, .bin .eql .no (.tmp 22) (.const (.b8 10)), some (17, true)⟩,
        ⟨some 24, .pick (.tmp 17) (.tmp 23) (.const (.bool false)), none⟩,
        ⟨some 4, .mov (.tmp 24), none⟩]) (
      .ret))) }

end Go.Ab

/-
  The abstract code of functions, printed by program (abgen.py, abput2.py).
-/
namespace Go.Ab

/-- posthorn/posthornlaw10.alive -/
def F_posthornlaw10_alive : ACFn := { nt := 47, results := [.tmp 0], body := (
  .seq (
    .region [
      ⟨some 0, .mov (.const (.bool false)), none⟩]) (
    .seq (
      .region [
        ⟨some 6, .call (.fn 55) [(.const (.str [97, 116, 116, 101, 110, 100, 101, 101, 59, 67, 78, 61, 34, 97, 44, 32, 98, 34, 58, 109, 97, 105, 108, 116, 111, 58, 120]))], none⟩,
        ⟨some 5, .mov (.tmp 6), none⟩,
        ⟨some 7, .ext 0 (.tmp 5), none⟩,
        ⟨some 8, .ext 1 (.tmp 5), none⟩,
        ⟨some 1, .alloc [.str [], .nils, .str []], none⟩,
        ⟨none, .store 3 (.tmp 1) (.tmp 7), none⟩,
        ⟨some 2, .mov (.tmp 8), none⟩]) (
      .seq (
        .region [
          ⟨some 10, .call (.fn 55) [(.const (.str [97]))], none⟩,
          ⟨some 9, .mov (.tmp 10), none⟩,
          ⟨some 11, .ext 0 (.tmp 9), none⟩,
          ⟨some 12, .ext 1 (.tmp 9), none⟩,
          ⟨some 3, .alloc [.str [], .nils, .str []], none⟩,
          ⟨none, .store 3 (.tmp 3) (.tmp 11), none⟩,
          ⟨some 4, .mov (.tmp 12), none⟩]) (
        .seq (
          .region [
            ⟨some 13, .mov (.tmp 2), none⟩,
            ⟨some 14, .bin .eql .no (.tmp 13) (.const (.int .i64 0)), none⟩,
            ⟨some 15, .mov (.tmp 14), none⟩,
            ⟨some 16, .faddr 0 (.tmp 1), some (15, true)⟩,
            ⟨some 17, .load false 1 (.tmp 16), some (15, true)⟩,
            ⟨some 18, .bin .eql .no (.tmp 17) (.const (.str [65, 84, 84, 69, 78, 68, 69, 69])), some (15, true)⟩,
            ⟨some 19, .pick (.tmp 15) (.tmp 18) (.const (.bool false)), none⟩,
            ⟨some 20, .mov (.tmp 19), none⟩,
            ⟨some 21, .faddr 1 (.tmp 1), some (20, true)⟩,
            ⟨some 22, .load false 1 (.tmp 21), some (20, true)⟩,
            ⟨some 23, .len false (.tmp 22), some (20, true)⟩,
            ⟨some 24, .bin .eql .no (.tmp 23) (.const (.int .i64 1)), some (20, true)⟩,
            ⟨some 25, .pick (.tmp 20) (.tmp 24) (.const (.bool false)), none⟩,
            ⟨some 26, .mov (.tmp 25), none⟩,
            ⟨some 27, .faddr 1 (.tmp 1), some (26, true)⟩,
            ⟨some 28, .load false 1 (.tmp 27), some (26, true)⟩,
            ⟨some 29, .iaddr 2 (.tmp 28) (.const (.int .i64 0)), some (26, true)⟩,
            ⟨some 30, .load true 2 (.tmp 29), some (26, true)⟩,
            ⟨some 31, .build [.str [], .str []] [(0, 1, (.const (.str [67, 78]))), (1, 1, (.const (.str [97, 44, 32, 98])))], some (26, true)⟩,
            ⟨some 32, .bin .eql (.struct [.s, .s]) (.tmp 30) (.tmp 31), some (26, true)⟩,
            ⟨some 33, .pick (.tmp 26) (.tmp 32) (.const (.bool false)), none⟩,
            ⟨some 34, .mov (.tmp 33), none⟩,
            ⟨some 35, .faddr 2 (.tmp 1), some (34, true)⟩,
            ⟨some 36, .load false 1 (.tmp 35), some (34, true)⟩,
            ⟨some 37, .bin .eql .no (.tmp 36) (.const (.str [109, 97, 105, 108, 116, 111, 58, 120])), some (34, true)⟩,
            ⟨some 38, .pick (.tmp 34) (.tmp 37) (.const (.bool false)), none⟩,
            ⟨some 39, .mov (.tmp 38), none⟩,
            ⟨some 40, .mov (.tmp 4), some (39, true)⟩,
            ⟨some 41, .bin .eql .no (.tmp 40) (.const (.int .i64 90)), some (39, true)⟩,
            ⟨some 42, .pick (.tmp 39) (.tmp 41) (.const (.bool false)), none⟩,
            ⟨some 43, .mov (.tmp 42), none⟩,
            ⟨some 44, .call (.fn 43) [(.const (.str [97, 59, 98]))], some (43, true)⟩,
            ⟨some 45, .bin .eql .no (.tmp 44) (.const (.str [97, 92, 59, 98])), some (43, true)⟩,
            ⟨some 46, .pick (.tmp 43) (.tmp 45) (.const (.bool false)), none⟩,
            ⟨some 0, .mov (.tmp 46), none⟩]) (
          .ret))))) }

/-- posthorn/sheet.Unescape -/
def F_sheet_Unescape : ACFn := { nt := 46, results := [.tmp 2, .tmp 3], body := (
  .seq (
    .region [
      ⟨some 2, .mov (.const (.str [])), none⟩,
      ⟨some 3, .mov (.const (.int .i64 0)), none⟩]) (
    .seq (
      .region [
        ⟨some 4, .mov (.const (.nils)), none⟩]) (
      .seq (
        .seq (
          .region [
            ⟨some 5, .mov (.const (.int .i64 0)), none⟩]) (
          .block 0 (
            .loop (
              .seq (
                .seq (
                  .region [
                    ⟨some 7, .mov (.tmp 5), none⟩,
                    ⟨some 8, .mov (.tmp 0), none⟩,
                    ⟨some 9, .len true (.tmp 8), none⟩,
                    ⟨some 10, .bin .lss .no (.tmp 7) (.tmp 9), none⟩]) (
                  .cond (.tmp 10) (
                    .skip) (
                    .exit 0))) (
                .seq (
                  .block 1 (
                    .seq (
                      .region [
                        ⟨some 13, .mov (.tmp 0), none⟩,
                        ⟨some 14, .mov (.tmp 5), none⟩,
                        ⟨some 15, .idxS (.tmp 13) (.tmp 14), none⟩,
                        ⟨some 6, .mov (.tmp 15), none⟩]) (
                      .seq (
                        .seq (
                          .region [
                            ⟨some 16, .mov (.tmp 6), none⟩]) (
                          .block 2 (
                            .seq (
                              .seq (
                                .region [
                                  ⟨some 18, .bin .eql .no (.tmp 16) (.const (.b8 59)), none⟩,
                                  ⟨some 17, .mov (.tmp 18), none⟩]) (
                                .cond (.tmp 17) (
                                  .skip) (
                                  .seq (
                                    .region [
                                      ⟨some 19, .bin .eql .no (.tmp 16) (.const (.b8 44)), none⟩,
                                      ⟨some 17, .mov (.tmp 19), none⟩]) (
                                    .cond (.tmp 17) (
                                      .skip) (
                                      .region [
                                        ⟨some 20, .bin .eql .no (.tmp 16) (.const (.b8 10)), none⟩,
                                        ⟨some 17, .mov (.tmp 20), none⟩]))))) (
                              .cond (.tmp 17) (
                                .seq (
                                  .region [
                                    ⟨some 2, .mov (.const (.str [])), none⟩,
                                    ⟨some 3, .mov (.const (.int .i64 90)), none⟩]) (
                                  .ret)) (
                                .seq (
                                  .region [
                                    ⟨some 22, .bin .eql .no (.tmp 16) (.const (.b8 92)), none⟩,
                                    ⟨some 21, .mov (.tmp 22), none⟩]) (
                                  .cond (.tmp 21) (
                                    .seq (
                                      .region [
                                        ⟨some 23, .mov (.tmp 5), none⟩,
                                        ⟨some 24, .bin .add .no (.tmp 23) (.const (.int .i64 1)), none⟩,
                                        ⟨some 5, .mov (.tmp 24), none⟩]) (
                                      .seq (
                                        .seq (
                                          .region [
                                            ⟨some 25, .mov (.tmp 5), none⟩,
                                            ⟨some 26, .mov (.tmp 0), none⟩,
                                            ⟨some 27, .len true (.tmp 26), none⟩,
                                            ⟨some 28, .bin .eql .no (.tmp 25) (.tmp 27), none⟩]) (
                                          .cond (.tmp 28) (
                                            .seq (
                                              .region [
                                                ⟨some 2, .mov (.const (.str [])), none⟩,
                                                ⟨some 3, .mov (.const (.int .i64 90)), none⟩]) (
                                              .ret)) (
                                            .skip))) (
                                        .seq (
                                          .region [
                                            ⟨some 29, .mov (.tmp 0), none⟩,
                                            ⟨some 30, .mov (.tmp 5), none⟩,
                                            ⟨some 31, .idxS (.tmp 29) (.tmp 30), none⟩,
                                            ⟨some 6, .mov (.tmp 31), none⟩]) (
                                          .seq (
                                            .region [
                                              ⟨some 32, .mov (.tmp 6), none⟩]) (
                                            .block 3 (
                                              .seq (
                                                .seq (
                                                  .region [
                                                    ⟨some 34, .bin .eql .no (.tmp 32) (.const (.b8 110)), none⟩,
                                                    ⟨some 33, .mov (.tmp 34), none⟩]) (
                                                  .cond (.tmp 33) (
                                                    .skip) (
                                                    .region [
                                                      ⟨some 35, .bin .eql .no (.tmp 32) (.const (.b8 78)), none⟩,
                                                      ⟨some 33, .mov (.tmp 35), none⟩]))) (
                                                .cond (.tmp 33) (
                                                  .region [
                                                    ⟨some 6, .mov (.const (.b8 10)), none⟩]) (
                                                  .seq (
                                                    .seq (
                                                      .region [
                                                        ⟨some 37, .bin .eql .no (.tmp 32) (.const (.b8 92)), none⟩,
                                                        ⟨some 36, .mov (.tmp 37), none⟩]) (
                                                      .cond (.tmp 36) (
                                                        .skip) (
                                                        .seq (
                                                          .region [
                                                            ⟨some 38, .bin .eql .no (.tmp 32) (.const (.b8 59)), none⟩,
                                                            ⟨some 36, .mov (.tmp 38), none⟩]) (
                                                          .cond (.tmp 36) (
                                                            .skip) (
                                                            .region [
                                                              ⟨some 39, .bin .eql .no (.tmp 32) (.const (.b8 44)), none⟩,
                                                              ⟨some 36, .mov (.tmp 39), none⟩]))))) (
                                                    .cond (.tmp 36) (
                                                      .skip) (
                                                      .seq (
                                                        .region [
                                                          ⟨some 2, .mov (.const (.str [])), none⟩,
                                                          ⟨some 3, .mov (.const (.int .i64 90)), none⟩]) (
                                                        .ret))))))))))) (
                                    .skip))))))) (
                        .region [
                          ⟨some 40, .mov (.tmp 4), none⟩,
                          ⟨some 41, .mov (.tmp 6), none⟩,
                          ⟨some 42, .lit8 1 [(0, (.tmp 41))], none⟩,
                          ⟨some 43, .app true 1 (.tmp 40) (.tmp 42), none⟩,
                          ⟨some 4, .mov (.tmp 43), none⟩])))) (
                  .region [
                    ⟨some 11, .mov (.tmp 5), none⟩,
                    ⟨some 12, .bin .add .no (.tmp 11) (.const (.int .i64 1)), none⟩,
                    ⟨some 5, .mov (.tmp 12), none⟩])))))) (
        .seq (
          .region [
            ⟨some 44, .mov (.tmp 4), none⟩,
            ⟨some 45, .cB2S false (.tmp 44), none⟩,
            ⟨some 2, .mov (.tmp 45), none⟩,
            ⟨some 3, .mov (.const (.int .i64 0)), none⟩]) (
          .ret))))) }

/-- posthorn/posthornref10.Unescape -/
def F_posthornref10_Unescape : ACFn := { nt := 74, results := [.tmp 2, .tmp 3], body := (
  .seq (
    .region [
      ⟨some 2, .mov (.const (.str [])), none⟩,
      ⟨some 3, .mov (.const (.int .i64 0)), none⟩]) (
    .seq (
      .region [
        ⟨some 4, .mov (.const (.nils)), none⟩]) (
      .seq (
        .seq (
          .region [
            ⟨some 5, .mov (.const (.int .i64 0)), none⟩]) (
          .block 0 (
            .loop (
              .seq (
                .seq (
                  .region [
                    ⟨some 6, .mov (.tmp 5), none⟩,
                    ⟨some 7, .mov (.tmp 0), none⟩,
                    ⟨some 8, .len true (.tmp 7), none⟩,
                    ⟨some 9, .bin .lss .no (.tmp 6) (.tmp 8), none⟩]) (
                  .cond (.tmp 9) (
                    .skip) (
                    .exit 0))) (
                .seq (
                  .block 1 (
                    .seq (
                      .seq (
                        .region [
                          ⟨some 12, .mov (.tmp 0), none⟩,
                          ⟨some 13, .mov (.tmp 5), none⟩,
                          ⟨some 14, .idxS (.tmp 12) (.tmp 13), none⟩,
                          ⟨some 15, .bin .eql .no (.tmp 14) (.const (.b8 59)), none⟩,
                          ⟨some 16, .mov (.tmp 15), none⟩,
                          ⟨some 17, .mov (.tmp 0), some (16, false)⟩,
                          ⟨some 18, .mov (.tmp 5), some (16, false)⟩,
                          ⟨some 19, .idxS (.tmp 17) (.tmp 18), some (16, false)⟩,
                          ⟨some 20, .bin .eql .no (.tmp 19) (.const (.b8 44)), some (16, false)⟩,
                          ⟨some 21, .pick (.tmp 16) (.const (.bool true)) (.tmp 20), none⟩,
                          ⟨some 22, .mov (.tmp 21), none⟩,
                          ⟨some 23, .mov (.tmp 0), some (22, false)⟩,
                          ⟨some 24, .mov (.tmp 5), some (22, false)⟩,
                          ⟨some 25, .idxS (.tmp 23) (.tmp 24), some (22, false)⟩,
                          ⟨some 26, .bin .eql .no (.tmp 25) (.const (.b8 10)), some (22, false)⟩,
                          ⟨some 27, .pick (.tmp 22) (.const (.bool true)) (.tmp 26), none⟩]) (
                        .cond (.tmp 27) (
                          .seq (
                            .region [
                              ⟨some 2, .mov (.const (.str [])), none⟩,
                              ⟨some 3, .mov (.const (.int .i64 90)), none⟩]) (
                            .ret)) (
                          .skip))) (
                      .seq (
                        .seq (
                          .region [
                            ⟨some 28, .mov (.tmp 0), none⟩,
                            ⟨some 29, .mov (.tmp 5), none⟩,
                            ⟨some 30, .idxS (.tmp 28) (.tmp 29), none⟩,
                            ⟨some 31, .bin .neq .no (.tmp 30) (.const (.b8 92)), none⟩]) (
                          .cond (.tmp 31) (
                            .seq (
                              .region [
                                ⟨some 32, .mov (.tmp 4), none⟩,
                                ⟨some 33, .mov (.tmp 0), none⟩,
                                ⟨some 34, .mov (.tmp 5), none⟩,
                                ⟨some 35, .idxS (.tmp 33) (.tmp 34), none⟩,
                                ⟨some 36, .lit8 1 [(0, (.tmp 35))], none⟩,
                                ⟨some 37, .app true 1 (.tmp 32) (.tmp 36), none⟩,
                                ⟨some 4, .mov (.tmp 37), none⟩]) (
                              .exit 1)) (
                            .skip))) (
                        .seq (
                          .region [
                            ⟨some 38, .mov (.tmp 5), none⟩,
                            ⟨some 39, .bin .add .no (.tmp 38) (.const (.int .i64 1)), none⟩,
                            ⟨some 5, .mov (.tmp 39), none⟩]) (
                          .seq (
                            .seq (
                              .region [
                                ⟨some 40, .mov (.tmp 5), none⟩,
                                ⟨some 41, .mov (.tmp 0), none⟩,
                                ⟨some 42, .len true (.tmp 41), none⟩,
                                ⟨some 43, .bin .geq .no (.tmp 40) (.tmp 42), none⟩,
                                ⟨some 44, .mov (.tmp 43), none⟩,
                                ⟨some 45, .mov (.tmp 0), some (44, false)⟩,
                                ⟨some 46, .mov (.tmp 5), some (44, false)⟩,
                                ⟨some 47, .mov (.tmp 5), some (44, false)⟩,
                                ⟨some 48, .bin .add .no (.tmp 47) (.const (.int .i64 1)), some (44, false)⟩,
                                ⟨some 49, .slc 0 (.tmp 45) (some (.tmp 46)) (some (.tmp 48)) none, some (44, false)⟩,
                                ⟨some 50, .call (.fn 56) [(.const (.str [92, 59, 44, 110, 78])), (.tmp 49)], some (44, false)⟩,
                                ⟨some 51, .un .not (.tmp 50), some (44, false)⟩,
                                ⟨some 52, .pick (.tmp 44) (.const (.bool true)) (.tmp 51), none⟩]) (
                              .cond (.tmp 52) (
                                .seq (
                                  .region [
                                    ⟨some 2, .mov (.const (.str [])), none⟩,
                                    ⟨some 3, .mov (.const (.int .i64 90)), none⟩]) (
                                  .ret)) (
                                .skip))) (
                            .seq (
                              .region [
                                ⟨some 53, .mov (.tmp 0), none⟩,
                                ⟨some 54, .mov (.tmp 5), none⟩,
                                ⟨some 55, .idxS (.tmp 53) (.tmp 54), none⟩,
                                ⟨some 56, .bin .eql .no (.tmp 55) (.const (.b8 110)), none⟩,
                                ⟨some 57, .mov (.tmp 56), none⟩,
                                ⟨some 58, .mov (.tmp 0), some (57, false)⟩,
                                ⟨some 59, .mov (.tmp 5), some (57, false)⟩,
                                ⟨some 60, .idxS (.tmp 58) (.tmp 59), some (57, false)⟩,
                                ⟨some 61, .bin .eql .no (.tmp 60) (.const (.b8 78)), some (57, false)⟩,
                                ⟨some 62, .pick (.tmp 57) (.const (.bool true)) (.tmp 61), none⟩]) (
                              .cond (.tmp 62) (
                                .region [
                                  ⟨some 63, .mov (.tmp 4), none⟩,
                                  ⟨some 64, .lit8 1 [(0, (.const (.b8 10)))], none⟩,
                                  ⟨some 65, .app true 1 (.tmp 63) (.tmp 64), none⟩,
                                  ⟨some 4, .mov (.tmp 65), none⟩]) (
                                .region [
                                  ⟨some 66, .mov (.tmp 4), none⟩,
                                  ⟨some 67, .mov (.tmp 0), none⟩,
                                  ⟨some 68, .mov (.tmp 5), none⟩,
                                  ⟨some 69, .idxS (.tmp 67) (.tmp 68), none⟩,
                                  ⟨some 70, .lit8 1 [(0, (.tmp 69))], none⟩,
                                  ⟨some 71, .app true 1 (.tmp 66) (.tmp 70), none⟩,
                                  ⟨some 4, .mov (.tmp 71), none⟩])))))))) (
                  .region [
                    ⟨some 10, .mov (.tmp 5), none⟩,
                    ⟨some 11, .bin .add .no (.tmp 10) (.const (.int .i64 1)), none⟩,
                    ⟨some 5, .mov (.tmp 11), none⟩])))))) (
        .seq (
          .region [
            ⟨some 72, .mov (.tmp 4), none⟩,
            ⟨some 73, .cB2S false (.tmp 72), none⟩,
            ⟨some 2, .mov (.tmp 73), none⟩,
            ⟨some 3, .mov (.const (.int .i64 0)), none⟩]) (
          .ret))))) }

/-- posthorn/sheet.Escape -/
def F_sheet_Escape : ACFn := { nt := 31, results := [.tmp 2], body := (
  .seq (
    .region [
      ⟨some 2, .mov (.const (.str [])), none⟩]) (
    .seq (
      .region [
        ⟨some 3, .alloc [.bslot, .nils], none⟩]) (
      .seq (
        .seq (
          .region [
            ⟨some 5, .mov (.tmp 0), none⟩,
            ⟨some 6, .len true (.tmp 5), none⟩,
            ⟨some 7, .mov (.const (.int .i64 0)), none⟩]) (
          .block 0 (
            .loop (
              .seq (
                .region [
                  ⟨some 8, .bin .lss .no (.tmp 7) (.tmp 6), none⟩]) (
                .seq (
                  .cond (.tmp 8) (
                    .skip) (
                    .exit 0)) (
                  .seq (
                    .block 1 (
                      .seq (
                        .region [
                          ⟨some 9, .mov (.tmp 7), none⟩,
                          ⟨some 4, .mov (.tmp 9), none⟩]) (
                        .seq (
                          .region [
                            ⟨some 10, .mov (.tmp 0), none⟩,
                            ⟨some 11, .mov (.tmp 4), none⟩,
                            ⟨some 12, .idxS (.tmp 10) (.tmp 11), none⟩]) (
                          .block 2 (
                            .seq (
                              .seq (
                                .region [
                                  ⟨some 18, .bin .eql .no (.tmp 12) (.const (.b8 92)), none⟩,
                                  ⟨some 17, .mov (.tmp 18), none⟩]) (
                                .cond (.tmp 17) (
                                  .skip) (
                                  .seq (
                                    .region [
                                      ⟨some 19, .bin .eql .no (.tmp 12) (.const (.b8 59)), none⟩,
                                      ⟨some 17, .mov (.tmp 19), none⟩]) (
                                    .cond (.tmp 17) (
                                      .skip) (
                                      .region [
                                        ⟨some 20, .bin .eql .no (.tmp 12) (.const (.b8 44)), none⟩,
                                        ⟨some 17, .mov (.tmp 20), none⟩]))))) (
                              .cond (.tmp 17) (
                                .seq (
                                  .region [
                                    ⟨some 21, .call (.fn 57) [(.tmp 3), (.const (.b8 92))], none⟩]) (
                                  .region [
                                    ⟨some 22, .mov (.tmp 0), none⟩,
                                    ⟨some 23, .mov (.tmp 4), none⟩,
                                    ⟨some 24, .idxS (.tmp 22) (.tmp 23), none⟩,
                                    ⟨some 25, .call (.fn 57) [(.tmp 3), (.tmp 24)], none⟩])) (
                                .seq (
                                  .region [
                                    ⟨some 27, .bin .eql .no (.tmp 12) (.const (.b8 10)), none⟩,
                                    ⟨some 26, .mov (.tmp 27), none⟩]) (
                                  .cond (.tmp 26) (
                                    .region [
                                      ⟨some 28, .call (.fn 58) [(.tmp 3), (.const (.str [92, 110]))], none⟩]) (
                                    .region [
                                      ⟨some 13, .mov (.tmp 0), none⟩,
                                      ⟨some 14, .mov (.tmp 4), none⟩,
                                      ⟨some 15, .idxS (.tmp 13) (.tmp 14), none⟩,
                                      ⟨some 16, .call (.fn 57) [(.tmp 3), (.tmp 15)], none⟩]))))))))) (
                    .region [
                      ⟨some 29, .bin .add .no (.tmp 7) (.const (.int .i64 1)), none⟩,
                      ⟨some 7, .mov (.tmp 29), none⟩]))))))) (
        .seq (
          .region [
            ⟨some 30, .call (.fn 59) [(.tmp 3)], none⟩,
            ⟨some 2, .mov (.tmp 30), none⟩]) (
          .ret))))) }

/-- posthorn/posthornref10.Escape -/
def F_posthornref10_Escape : ACFn := { nt := 45, results := [.tmp 2], body := (
  .seq (
    .region [
      ⟨some 2, .mov (.const (.str [])), none⟩]) (
    .seq (
      .region [
        ⟨some 3, .mov (.const (.nils)), none⟩]) (
      .seq (
        .seq (
          .region [
            ⟨some 4, .mov (.const (.int .i64 0)), none⟩]) (
          .block 0 (
            .loop (
              .seq (
                .seq (
                  .region [
                    ⟨some 5, .mov (.tmp 4), none⟩,
                    ⟨some 6, .mov (.tmp 0), none⟩,
                    ⟨some 7, .len true (.tmp 6), none⟩,
                    ⟨some 8, .bin .lss .no (.tmp 5) (.tmp 7), none⟩]) (
                  .cond (.tmp 8) (
                    .skip) (
                    .exit 0))) (
                .seq (
                  .block 1 (
                    .seq (
                      .seq (
                        .region [
                          ⟨some 11, .mov (.tmp 0), none⟩,
                          ⟨some 12, .mov (.tmp 4), none⟩,
                          ⟨some 13, .idxS (.tmp 11) (.tmp 12), none⟩,
                          ⟨some 14, .bin .eql .no (.tmp 13) (.const (.b8 10)), none⟩]) (
                        .cond (.tmp 14) (
                          .seq (
                            .region [
                              ⟨some 15, .mov (.tmp 3), none⟩,
                              ⟨some 16, .lit8 2 [(0, (.const (.b8 92))), (1, (.const (.b8 110)))], none⟩,
                              ⟨some 17, .app true 1 (.tmp 15) (.tmp 16), none⟩,
                              ⟨some 3, .mov (.tmp 17), none⟩]) (
                            .exit 1)) (
                          .skip))) (
                      .seq (
                        .seq (
                          .region [
                            ⟨some 18, .mov (.tmp 0), none⟩,
                            ⟨some 19, .mov (.tmp 4), none⟩,
                            ⟨some 20, .idxS (.tmp 18) (.tmp 19), none⟩,
                            ⟨some 21, .bin .eql .no (.tmp 20) (.const (.b8 92)), none⟩,
                            ⟨some 22, .mov (.tmp 21), none⟩,
                            ⟨some 23, .mov (.tmp 0), some (22, false)⟩,
                            ⟨some 24, .mov (.tmp 4), some (22, false)⟩,
                            ⟨some 25, .idxS (.tmp 23) (.tmp 24), some (22, false)⟩,
                            ⟨some 26, .bin .eql .no (.tmp 25) (.const (.b8 59)), some (22, false)⟩,
                            ⟨some 27, .pick (.tmp 22) (.const (.bool true)) (.tmp 26), none⟩,
                            ⟨some 28, .mov (.tmp 27), none⟩,
                            ⟨some 29, .mov (.tmp 0), some (28, false)⟩,
                            ⟨some 30, .mov (.tmp 4), some (28, false)⟩,
                            ⟨some 31, .idxS (.tmp 29) (.tmp 30), some (28, false)⟩,
                            ⟨some 32, .bin .eql .no (.tmp 31) (.const (.b8 44)), some (28, false)⟩,
                            ⟨some 33, .pick (.tmp 28) (.const (.bool true)) (.tmp 32), none⟩]) (
                          .cond (.tmp 33) (
                            .region [
                              ⟨some 34, .mov (.tmp 3), none⟩,
                              ⟨some 35, .lit8 1 [(0, (.const (.b8 92)))], none⟩,
                              ⟨some 36, .app true 1 (.tmp 34) (.tmp 35), none⟩,
                              ⟨some 3, .mov (.tmp 36), none⟩]) (
                            .skip))) (
                        .region [
                          ⟨some 37, .mov (.tmp 3), none⟩,
                          ⟨some 38, .mov (.tmp 0), none⟩,
                          ⟨some 39, .mov (.tmp 4), none⟩,
                          ⟨some 40, .idxS (.tmp 38) (.tmp 39), none⟩,
                          ⟨some 41, .lit8 1 [(0, (.tmp 40))], none⟩,
                          ⟨some 42, .app true 1 (.tmp 37) (.tmp 41), none⟩,
                          ⟨some 3, .mov (.tmp 42), none⟩])))) (
                  .region [
                    ⟨some 9, .mov (.tmp 4), none⟩,
                    ⟨some 10, .bin .add .no (.tmp 9) (.const (.int .i64 1)), none⟩,
                    ⟨some 4, .mov (.tmp 10), none⟩])))))) (
        .seq (
          .region [
            ⟨some 43, .mov (.tmp 3), none⟩,
            ⟨some 44, .cB2S false (.tmp 43), none⟩,
            ⟨some 2, .mov (.tmp 44), none⟩]) (
          .ret))))) }

/-- posthorn/posthornlaw10.SheetEscapes -/
def F_posthornlaw10_SheetEscapes : ACFn := { nt := 46, results := [.tmp 4], body := (
  .seq (
    .region [
      ⟨some 4, .mov (.const (.bool false)), none⟩]) (
    .seq (
      .seq (
        .region [
          ⟨some 9, .mov (.tmp 0), none⟩,
          ⟨some 10, .len true (.tmp 9), none⟩,
          ⟨some 11, .bin .gtr .no (.tmp 10) (.const (.int .i64 3000)), none⟩,
          ⟨some 12, .mov (.tmp 11), none⟩,
          ⟨some 13, .mov (.tmp 1), some (12, false)⟩,
          ⟨some 14, .len true (.tmp 13), some (12, false)⟩,
          ⟨some 15, .bin .gtr .no (.tmp 14) (.const (.int .i64 3000)), some (12, false)⟩,
          ⟨some 16, .pick (.tmp 12) (.const (.bool true)) (.tmp 15), none⟩]) (
        .cond (.tmp 16) (
          .seq (
            .region [
              ⟨some 17, .call (.fn 40) [], none⟩,
              ⟨some 4, .mov (.tmp 17), none⟩]) (
            .ret)) (
          .skip))) (
      .seq (
        .region [
          ⟨some 19, .mov (.tmp 1), none⟩,
          ⟨some 20, .call (.fn 41) [(.tmp 19)], none⟩,
          ⟨some 18, .mov (.tmp 20), none⟩,
          ⟨some 21, .ext 0 (.tmp 18), none⟩,
          ⟨some 22, .ext 1 (.tmp 18), none⟩,
          ⟨some 5, .mov (.tmp 21), none⟩,
          ⟨some 6, .mov (.tmp 22), none⟩]) (
        .seq (
          .region [
            ⟨some 24, .mov (.tmp 1), none⟩,
            ⟨some 25, .call (.fn 42) [(.tmp 24)], none⟩,
            ⟨some 23, .mov (.tmp 25), none⟩,
            ⟨some 26, .ext 0 (.tmp 23), none⟩,
            ⟨some 27, .ext 1 (.tmp 23), none⟩,
            ⟨some 7, .mov (.tmp 26), none⟩,
            ⟨some 8, .mov (.tmp 27), none⟩]) (
          .seq (
            .region [
              ⟨some 28, .call (.fn 40) [], none⟩,
              ⟨some 29, .mov (.tmp 28), none⟩,
              ⟨some 30, .mov (.tmp 0), some (29, true)⟩,
              ⟨some 31, .call (.fn 43) [(.tmp 30)], some (29, true)⟩,
              ⟨some 32, .mov (.tmp 0), some (29, true)⟩,
              ⟨some 33, .call (.fn 44) [(.tmp 32)], some (29, true)⟩,
              ⟨some 34, .bin .eql .no (.tmp 31) (.tmp 33), some (29, true)⟩,
              ⟨some 35, .pick (.tmp 29) (.tmp 34) (.const (.bool false)), none⟩,
              ⟨some 36, .mov (.tmp 35), none⟩,
              ⟨some 37, .mov (.tmp 5), some (36, true)⟩,
              ⟨some 38, .mov (.tmp 7), some (36, true)⟩,
              ⟨some 39, .bin .eql .no (.tmp 37) (.tmp 38), some (36, true)⟩,
              ⟨some 40, .pick (.tmp 36) (.tmp 39) (.const (.bool false)), none⟩,
              ⟨some 41, .mov (.tmp 40), none⟩,
              ⟨some 42, .mov (.tmp 6), some (41, true)⟩,
              ⟨some 43, .mov (.tmp 8), some (41, true)⟩,
              ⟨some 44, .bin .eql .no (.tmp 42) (.tmp 43), some (41, true)⟩,
              ⟨some 45, .pick (.tmp 41) (.tmp 44) (.const (.bool false)), none⟩,
              ⟨some 4, .mov (.tmp 45), none⟩]) (
            .ret)))))) }

/-- posthorn/posthornlaw10.SheetTexts -/
def F_posthornlaw10_SheetTexts : ACFn := { nt := 82, results := [.tmp 4], body := (
  .seq (
    .region [
      ⟨some 4, .mov (.const (.bool false)), none⟩]) (
    .seq (
      .seq (
        .region [
          ⟨some 11, .mov (.tmp 0), none⟩,
          ⟨some 12, .len true (.tmp 11), none⟩,
          ⟨some 13, .bin .gtr .no (.tmp 12) (.const (.int .i64 3000)), none⟩,
          ⟨some 14, .mov (.tmp 13), none⟩,
          ⟨some 15, .mov (.tmp 1), some (14, false)⟩,
          ⟨some 16, .len true (.tmp 15), some (14, false)⟩,
          ⟨some 17, .bin .gtr .no (.tmp 16) (.const (.int .i64 3000)), some (14, false)⟩,
          ⟨some 18, .pick (.tmp 14) (.const (.bool true)) (.tmp 17), none⟩]) (
        .cond (.tmp 18) (
          .seq (
            .region [
              ⟨some 19, .call (.fn 40) [], none⟩,
              ⟨some 4, .mov (.tmp 19), none⟩]) (
            .ret)) (
          .skip))) (
      .seq (
        .region [
          ⟨some 21, .mov (.tmp 0), none⟩,
          ⟨some 22, .call (.fn 43) [(.tmp 21)], none⟩,
          ⟨some 23, .call (.fn 41) [(.tmp 22)], none⟩,
          ⟨some 20, .mov (.tmp 23), none⟩,
          ⟨some 24, .ext 0 (.tmp 20), none⟩,
          ⟨some 25, .ext 1 (.tmp 20), none⟩,
          ⟨some 5, .mov (.tmp 24), none⟩,
          ⟨some 6, .mov (.tmp 25), none⟩]) (
        .seq (
          .region [
            ⟨some 27, .mov (.tmp 1), none⟩,
            ⟨some 28, .call (.fn 41) [(.tmp 27)], none⟩,
            ⟨some 26, .mov (.tmp 28), none⟩,
            ⟨some 29, .ext 0 (.tmp 26), none⟩,
            ⟨some 30, .ext 1 (.tmp 26), none⟩,
            ⟨some 7, .mov (.tmp 29), none⟩,
            ⟨some 8, .mov (.tmp 30), none⟩]) (
          .seq (
            .seq (
              .region [
                ⟨some 31, .mov (.tmp 6), none⟩,
                ⟨some 32, .bin .neq .no (.tmp 31) (.const (.int .i64 0)), none⟩,
                ⟨some 33, .mov (.tmp 32), none⟩,
                ⟨some 34, .mov (.tmp 5), some (33, false)⟩,
                ⟨some 35, .mov (.tmp 0), some (33, false)⟩,
                ⟨some 36, .bin .neq .no (.tmp 34) (.tmp 35), some (33, false)⟩,
                ⟨some 37, .pick (.tmp 33) (.const (.bool true)) (.tmp 36), none⟩]) (
              .cond (.tmp 37) (
                .seq (
                  .region [
                    ⟨some 4, .mov (.const (.bool false)), none⟩]) (
                  .ret)) (
                .skip))) (
            .seq (
              .seq (
                .region [
                  ⟨some 38, .mov (.tmp 8), none⟩,
                  ⟨some 39, .bin .neq .no (.tmp 38) (.const (.int .i64 0)), none⟩]) (
                .cond (.tmp 39) (
                  .seq (
                    .region [
                      ⟨some 40, .call (.fn 40) [], none⟩,
                      ⟨some 41, .mov (.tmp 40), none⟩,
                      ⟨some 42, .mov (.tmp 7), some (41, true)⟩,
                      ⟨some 43, .bin .eql .no (.tmp 42) (.const (.str [])), some (41, true)⟩,
                      ⟨some 44, .pick (.tmp 41) (.tmp 43) (.const (.bool false)), none⟩,
                      ⟨some 4, .mov (.tmp 44), none⟩]) (
                    .ret)) (
                  .skip))) (
              .seq (
                .region [
                  ⟨some 45, .mov (.tmp 7), none⟩,
                  ⟨some 46, .call (.fn 43) [(.tmp 45)], none⟩,
                  ⟨some 47, .cS2B false (.tmp 46), none⟩,
                  ⟨some 9, .mov (.tmp 47), none⟩]) (
                .seq (
                  .seq (
                    .region [
                      ⟨some 48, .mov (.tmp 9), none⟩,
                      ⟨some 49, .len false (.tmp 48), none⟩,
                      ⟨some 50, .mov (.tmp 1), none⟩,
                      ⟨some 51, .len true (.tmp 50), none⟩,
                      ⟨some 52, .bin .neq .no (.tmp 49) (.tmp 51), none⟩]) (
                    .cond (.tmp 52) (
                      .seq (
                        .region [
                          ⟨some 4, .mov (.const (.bool false)), none⟩]) (
                        .ret)) (
                      .skip))) (
                  .seq (
                    .seq (
                      .region [
                        ⟨some 10, .mov (.const (.int .i64 0)), none⟩]) (
                      .block 0 (
                        .loop (
                          .seq (
                            .seq (
                              .region [
                                ⟨some 53, .mov (.tmp 10), none⟩,
                                ⟨some 54, .mov (.tmp 9), none⟩,
                                ⟨some 55, .len false (.tmp 54), none⟩,
                                ⟨some 56, .bin .lss .no (.tmp 53) (.tmp 55), none⟩]) (
                              .cond (.tmp 56) (
                                .skip) (
                                .exit 0))) (
                            .seq (
                              .block 1 (
                                .seq (
                                  .region [
                                    ⟨some 59, .mov (.tmp 9), none⟩,
                                    ⟨some 60, .mov (.tmp 10), none⟩,
                                    ⟨some 61, .iaddr 1 (.tmp 59) (.tmp 60), none⟩,
                                    ⟨some 62, .load false 1 (.tmp 61), none⟩,
                                    ⟨some 63, .mov (.tmp 1), none⟩,
                                    ⟨some 64, .mov (.tmp 10), none⟩,
                                    ⟨some 65, .idxS (.tmp 63) (.tmp 64), none⟩,
                                    ⟨some 66, .bin .neq .no (.tmp 62) (.tmp 65), none⟩,
                                    ⟨some 67, .mov (.tmp 66), none⟩,
                                    ⟨some 68, .mov (.tmp 9), some (67, true)⟩,
                                    ⟨some 69, .mov (.tmp 10), some (67, true)⟩,
                                    ⟨some 70, .iaddr 1 (.tmp 68) (.tmp 69), some (67, true)⟩,
                                    ⟨some 71, .load false 1 (.tmp 70), some (67, true)⟩,
                                    ⟨some 72, .bin .eql .no (.tmp 71) (.const (.b8 110)), some (67, true)⟩,
                                    ⟨some 73, .mov (.tmp 72), some (67, true)⟩,
                                    ⟨some 74, .mov (.tmp 1), some (73, true)⟩,
                                    ⟨some 75, .mov (.tmp 10), some (73, true)⟩,
                                    ⟨some 76, .idxS (.tmp 74) (.tmp 75), some (73, true)⟩,
                                    ⟨some 77, .bin .eql .no (.tmp 76) (.const (.b8 78)), some (73, true)⟩,
                                    ⟨some 78, .pick (.tmp 73) (.tmp 77) (.const (.bool false)), some (67, true)⟩,
                                    ⟨some 79, .un .not (.tmp 78), some (67, true)⟩,
                                    ⟨some 80, .pick (.tmp 67) (.tmp 79) (.const (.bool false)), none⟩]) (
                                  .cond (.tmp 80) (
                                    .seq (
                                      .region [
                                        ⟨some 4, .mov (.const (.bool false)), none⟩]) (
                                      .ret)) (
                                    .skip)))) (
                              .region [
                                ⟨some 57, .mov (.tmp 10), none⟩,
                                ⟨some 58, .bin .add .no (.tmp 57) (.const (.int .i64 1)), none⟩,
                                ⟨some 10, .mov (.tmp 58), none⟩])))))) (
                    .seq (
                      .region [
                        ⟨some 81, .call (.fn 40) [], none⟩,
                        ⟨some 4, .mov (.tmp 81), none⟩]) (
                      .ret))))))))))) }

/-- posthorn/posthornlaw10.Great -/
def F_posthornlaw10_Great : ACFn := { nt := 84, results := [.tmp 2], body := (
  .seq (
    .region [
      ⟨some 2, .mov (.const (.bool false)), none⟩]) (
    .seq (
      .seq (
        .region [
          ⟨some 5, .mov (.tmp 0), none⟩,
          ⟨some 6, .len false (.tmp 5), none⟩,
          ⟨some 7, .bin .gtr .no (.tmp 6) (.const (.int .i64 60)), none⟩]) (
        .cond (.tmp 7) (
          .seq (
            .region [
              ⟨some 2, .mov (.const (.bool true)), none⟩]) (
            .ret)) (
          .skip))) (
      .seq (
        .seq (
          .region [
            ⟨some 3, .mov (.const (.int .i64 0)), none⟩]) (
          .block 0 (
            .loop (
              .seq (
                .seq (
                  .region [
                    ⟨some 8, .mov (.tmp 3), none⟩,
                    ⟨some 9, .mov (.tmp 0), none⟩,
                    ⟨some 10, .len false (.tmp 9), none⟩,
                    ⟨some 11, .bin .lss .no (.tmp 8) (.tmp 10), none⟩]) (
                  .cond (.tmp 11) (
                    .skip) (
                    .exit 0))) (
                .seq (
                  .block 1 (
                    .seq (
                      .seq (
                        .region [
                          ⟨some 14, .mov (.tmp 0), none⟩,
                          ⟨some 15, .mov (.tmp 3), none⟩,
                          ⟨some 16, .iaddr 3 (.tmp 14) (.tmp 15), none⟩,
                          ⟨some 17, .faddr 1 (.tmp 16), none⟩,
                          ⟨some 18, .load false 1 (.tmp 17), none⟩,
                          ⟨some 19, .len false (.tmp 18), none⟩,
                          ⟨some 20, .bin .gtr .no (.tmp 19) (.const (.int .i64 30)), none⟩,
                          ⟨some 21, .mov (.tmp 20), none⟩,
                          ⟨some 22, .mov (.tmp 0), some (21, false)⟩,
                          ⟨some 23, .mov (.tmp 3), some (21, false)⟩,
                          ⟨some 24, .iaddr 3 (.tmp 22) (.tmp 23), some (21, false)⟩,
                          ⟨some 25, .faddr 0 (.tmp 24), some (21, false)⟩,
                          ⟨some 26, .load false 1 (.tmp 25), some (21, false)⟩,
                          ⟨some 27, .len true (.tmp 26), some (21, false)⟩,
                          ⟨some 28, .bin .gtr .no (.tmp 27) (.const (.int .i64 300)), some (21, false)⟩,
                          ⟨some 29, .pick (.tmp 21) (.const (.bool true)) (.tmp 28), none⟩,
                          ⟨some 30, .mov (.tmp 29), none⟩,
                          ⟨some 31, .mov (.tmp 0), some (30, false)⟩,
                          ⟨some 32, .mov (.tmp 3), some (30, false)⟩,
                          ⟨some 33, .iaddr 3 (.tmp 31) (.tmp 32), some (30, false)⟩,
                          ⟨some 34, .faddr 2 (.tmp 33), some (30, false)⟩,
                          ⟨some 35, .load false 1 (.tmp 34), some (30, false)⟩,
                          ⟨some 36, .len true (.tmp 35), some (30, false)⟩,
                          ⟨some 37, .bin .gtr .no (.tmp 36) (.const (.int .i64 5000)), some (30, false)⟩,
                          ⟨some 38, .pick (.tmp 30) (.const (.bool true)) (.tmp 37), none⟩,
                          ⟨some 39, .mov (.tmp 38), none⟩,
                          ⟨some 40, .mov (.tmp 3), some (39, false)⟩,
                          ⟨some 41, .bin .gtr .no (.tmp 40) (.const (.int .i64 5)), some (39, false)⟩,
                          ⟨some 42, .mov (.tmp 41), some (39, false)⟩,
                          ⟨some 43, .mov (.tmp 0), some (42, true)⟩,
                          ⟨some 44, .mov (.tmp 3), some (42, true)⟩,
                          ⟨some 45, .iaddr 3 (.tmp 43) (.tmp 44), some (42, true)⟩,
                          ⟨some 46, .faddr 2 (.tmp 45), some (42, true)⟩,
                          ⟨some 47, .load false 1 (.tmp 46), some (42, true)⟩,
                          ⟨some 48, .len true (.tmp 47), some (42, true)⟩,
                          ⟨some 49, .bin .gtr .no (.tmp 48) (.const (.int .i64 300)), some (42, true)⟩,
                          ⟨some 50, .pick (.tmp 42) (.tmp 49) (.const (.bool false)), some (39, false)⟩,
                          ⟨some 51, .pick (.tmp 39) (.const (.bool true)) (.tmp 50), none⟩]) (
                        .cond (.tmp 51) (
                          .seq (
                            .region [
                              ⟨some 2, .mov (.const (.bool true)), none⟩]) (
                            .ret)) (
                          .skip))) (
                      .seq (
                        .region [
                          ⟨some 4, .mov (.const (.int .i64 0)), none⟩]) (
                        .block 2 (
                          .loop (
                            .seq (
                              .seq (
                                .region [
                                  ⟨some 52, .mov (.tmp 4), none⟩,
                                  ⟨some 53, .mov (.tmp 0), none⟩,
                                  ⟨some 54, .mov (.tmp 3), none⟩,
                                  ⟨some 55, .iaddr 3 (.tmp 53) (.tmp 54), none⟩,
                                  ⟨some 56, .faddr 1 (.tmp 55), none⟩,
                                  ⟨some 57, .load false 1 (.tmp 56), none⟩,
                                  ⟨some 58, .len false (.tmp 57), none⟩,
                                  ⟨some 59, .bin .lss .no (.tmp 52) (.tmp 58), none⟩]) (
                                .cond (.tmp 59) (
                                  .skip) (
                                  .exit 2))) (
                              .seq (
                                .block 3 (
                                  .seq (
                                    .region [
                                      ⟨some 62, .mov (.tmp 0), none⟩,
                                      ⟨some 63, .mov (.tmp 3), none⟩,
                                      ⟨some 64, .iaddr 3 (.tmp 62) (.tmp 63), none⟩,
                                      ⟨some 65, .faddr 1 (.tmp 64), none⟩,
                                      ⟨some 66, .load false 1 (.tmp 65), none⟩,
                                      ⟨some 67, .mov (.tmp 4), none⟩,
                                      ⟨some 68, .iaddr 2 (.tmp 66) (.tmp 67), none⟩,
                                      ⟨some 69, .faddr 0 (.tmp 68), none⟩,
                                      ⟨some 70, .load false 1 (.tmp 69), none⟩,
                                      ⟨some 71, .len true (.tmp 70), none⟩,
                                      ⟨some 72, .mov (.tmp 0), none⟩,
                                      ⟨some 73, .mov (.tmp 3), none⟩,
                                      ⟨some 74, .iaddr 3 (.tmp 72) (.tmp 73), none⟩,
                                      ⟨some 75, .faddr 1 (.tmp 74), none⟩,
                                      ⟨some 76, .load false 1 (.tmp 75), none⟩,
                                      ⟨some 77, .mov (.tmp 4), none⟩,
                                      ⟨some 78, .iaddr 2 (.tmp 76) (.tmp 77), none⟩,
                                      ⟨some 79, .faddr 1 (.tmp 78), none⟩,
                                      ⟨some 80, .load false 1 (.tmp 79), none⟩,
                                      ⟨some 81, .len true (.tmp 80), none⟩,
                                      ⟨some 82, .bin .add .no (.tmp 71) (.tmp 81), none⟩,
                                      ⟨some 83, .bin .gtr .no (.tmp 82) (.const (.int .i64 500)), none⟩]) (
                                    .cond (.tmp 83) (
                                      .seq (
                                        .region [
                                          ⟨some 2, .mov (.const (.bool true)), none⟩]) (
                                        .ret)) (
                                      .skip)))) (
                                .region [
                                  ⟨some 60, .mov (.tmp 4), none⟩,
                                  ⟨some 61, .bin .add .no (.tmp 60) (.const (.int .i64 1)), none⟩,
                                  ⟨some 4, .mov (.tmp 61), none⟩])))))))) (
                  .region [
                    ⟨some 12, .mov (.tmp 3), none⟩,
                    ⟨some 13, .bin .add .no (.tmp 12) (.const (.int .i64 1)), none⟩,
                    ⟨some 3, .mov (.tmp 13), none⟩])))))) (
        .seq (
          .region [
            ⟨some 2, .mov (.const (.bool false)), none⟩]) (
          .ret))))) }

/-- posthorn/sheet.Write -/
def F_sheet_Write : ACFn := { nt := 46, results := [.tmp 2, .tmp 3], body := (
  .seq (
    .region [
      ⟨some 2, .mov (.const (.nils)), none⟩,
      ⟨some 3, .mov (.const (.int .i64 0)), none⟩]) (
    .seq (
      .seq (
        .region [
          ⟨some 9, .mov (.tmp 0), none⟩,
          ⟨some 10, .len false (.tmp 9), none⟩,
          ⟨some 11, .bin .gtr .no (.tmp 10) (.const (.int .i64 4096)), none⟩]) (
        .cond (.tmp 11) (
          .seq (
            .region [
              ⟨some 2, .mov (.const (.nils)), none⟩,
              ⟨some 3, .mov (.const (.int .i64 2)), none⟩]) (
            .ret)) (
          .skip))) (
      .seq (
        .region [
          ⟨some 4, .mov (.const (.nils)), none⟩]) (
        .seq (
          .seq (
            .region [
              ⟨some 12, .mov (.tmp 0), none⟩,
              ⟨some 13, .len false (.tmp 12), none⟩,
              ⟨some 14, .mov (.const (.int .i64 0)), none⟩]) (
            .block 0 (
              .loop (
                .seq (
                  .region [
                    ⟨some 15, .bin .lss .no (.tmp 14) (.tmp 13), none⟩]) (
                  .seq (
                    .cond (.tmp 15) (
                      .skip) (
                      .exit 0)) (
                    .seq (
                      .block 1 (
                        .seq (
                          .region [
                            ⟨some 16, .iaddr 3 (.tmp 12) (.tmp 14), none⟩,
                            ⟨some 17, .load true 3 (.tmp 16), none⟩,
                            ⟨some 6, .alloc [.str [], .nils, .str []], none⟩,
                            ⟨none, .store 3 (.tmp 6) (.tmp 17), none⟩]) (
                          .seq (
                            .seq (
                              .region [
                                ⟨some 18, .load true 3 (.tmp 6), none⟩,
                                ⟨some 19, .call (.fn 50) [(.tmp 18)], none⟩,
                                ⟨some 20, .un .not (.tmp 19), none⟩]) (
                              .cond (.tmp 20) (
                                .seq (
                                  .region [
                                    ⟨some 2, .mov (.const (.nils)), none⟩,
                                    ⟨some 3, .mov (.const (.int .i64 90)), none⟩]) (
                                  .ret)) (
                                .skip))) (
                            .seq (
                              .region [
                                ⟨some 21, .load true 3 (.tmp 6), none⟩,
                                ⟨some 22, .call (.fn 60) [(.tmp 21)], none⟩,
                                ⟨some 23, .cS2B false (.tmp 22), none⟩,
                                ⟨some 7, .mov (.tmp 23), none⟩]) (
                              .seq (
                                .block 2 (
                                  .loop (
                                    .seq (
                                      .seq (
                                        .region [
                                          ⟨some 24, .mov (.tmp 7), none⟩,
                                          ⟨some 25, .len false (.tmp 24), none⟩,
                                          ⟨some 26, .bin .gtr .no (.tmp 25) (.const (.int .i64 75)), none⟩]) (
                                        .cond (.tmp 26) (
                                          .skip) (
                                          .exit 2))) (
                                      .block 3 (
                                        .seq (
                                          .region [
                                            ⟨some 27, .mov (.tmp 7), none⟩,
                                            ⟨some 28, .call (.fn 61) [(.tmp 27), (.const (.int .i64 75))], none⟩,
                                            ⟨some 8, .mov (.tmp 28), none⟩]) (
                                          .seq (
                                            .region [
                                              ⟨some 29, .mov (.tmp 4), none⟩,
                                              ⟨some 30, .mov (.tmp 7), none⟩,
                                              ⟨some 31, .mov (.tmp 8), none⟩,
                                              ⟨some 32, .slc 1 (.tmp 30) none (some (.tmp 31)) none, none⟩,
                                              ⟨some 33, .app true 1 (.tmp 29) (.tmp 32), none⟩,
                                              ⟨some 34, .app true 1 (.tmp 33) (.const (.str [13, 10])), none⟩,
                                              ⟨some 4, .mov (.tmp 34), none⟩]) (
                                            .region [
                                              ⟨some 35, .lit8 1 [(0, (.const (.b8 32)))], none⟩,
                                              ⟨some 36, .mov (.tmp 7), none⟩,
                                              ⟨some 37, .mov (.tmp 8), none⟩,
                                              ⟨some 38, .slc 1 (.tmp 36) (some (.tmp 37)) none none, none⟩,
                                              ⟨some 39, .app true 1 (.tmp 35) (.tmp 38), none⟩,
                                              ⟨some 7, .mov (.tmp 39), none⟩]))))))) (
                                .region [
                                  ⟨some 40, .mov (.tmp 4), none⟩,
                                  ⟨some 41, .mov (.tmp 7), none⟩,
                                  ⟨some 42, .app true 1 (.tmp 40) (.tmp 41), none⟩,
                                  ⟨some 43, .app true 1 (.tmp 42) (.const (.str [13, 10])), none⟩,
                                  ⟨some 4, .mov (.tmp 43), none⟩])))))) (
                      .region [
                        ⟨some 44, .bin .add .no (.tmp 14) (.const (.int .i64 1)), none⟩,
                        ⟨some 14, .mov (.tmp 44), none⟩]))))))) (
          .seq (
            .region [
              ⟨some 45, .mov (.tmp 4), none⟩,
              ⟨some 2, .mov (.tmp 45), none⟩,
              ⟨some 3, .mov (.const (.int .i64 0)), none⟩]) (
            .ret)))))) }

/-- posthorn/posthornref10.Write -/
def F_posthornref10_Write : ACFn := { nt := 53, results := [.tmp 2, .tmp 3], body := (
  .seq (
    .region [
      ⟨some 2, .mov (.const (.nils)), none⟩,
      ⟨some 3, .mov (.const (.int .i64 0)), none⟩]) (
    .seq (
      .seq (
        .region [
          ⟨some 8, .mov (.tmp 0), none⟩,
          ⟨some 9, .len false (.tmp 8), none⟩,
          ⟨some 10, .bin .gtr .no (.tmp 9) (.const (.int .i64 4096)), none⟩]) (
        .cond (.tmp 10) (
          .seq (
            .region [
              ⟨some 2, .mov (.const (.nils)), none⟩,
              ⟨some 3, .mov (.const (.int .i64 2)), none⟩]) (
            .ret)) (
          .skip))) (
      .seq (
        .region [
          ⟨some 4, .mov (.const (.nils)), none⟩]) (
        .seq (
          .seq (
            .region [
              ⟨some 5, .mov (.const (.int .i64 0)), none⟩]) (
            .block 0 (
              .loop (
                .seq (
                  .seq (
                    .region [
                      ⟨some 11, .mov (.tmp 5), none⟩,
                      ⟨some 12, .mov (.tmp 0), none⟩,
                      ⟨some 13, .len false (.tmp 12), none⟩,
                      ⟨some 14, .bin .lss .no (.tmp 11) (.tmp 13), none⟩]) (
                    .cond (.tmp 14) (
                      .skip) (
                      .exit 0))) (
                  .seq (
                    .block 1 (
                      .seq (
                        .seq (
                          .region [
                            ⟨some 17, .mov (.tmp 0), none⟩,
                            ⟨some 18, .mov (.tmp 5), none⟩,
                            ⟨some 19, .iaddr 3 (.tmp 17) (.tmp 18), none⟩,
                            ⟨some 20, .load true 3 (.tmp 19), none⟩,
                            ⟨some 21, .call (.fn 51) [(.tmp 20)], none⟩,
                            ⟨some 22, .un .not (.tmp 21), none⟩]) (
                          .cond (.tmp 22) (
                            .seq (
                              .region [
                                ⟨some 2, .mov (.const (.nils)), none⟩,
                                ⟨some 3, .mov (.const (.int .i64 90)), none⟩]) (
                              .ret)) (
                            .skip))) (
                        .seq (
                          .region [
                            ⟨some 23, .mov (.tmp 0), none⟩,
                            ⟨some 24, .mov (.tmp 5), none⟩,
                            ⟨some 25, .iaddr 3 (.tmp 23) (.tmp 24), none⟩,
                            ⟨some 26, .load true 3 (.tmp 25), none⟩,
                            ⟨some 27, .call (.fn 62) [(.tmp 26)], none⟩,
                            ⟨some 6, .mov (.tmp 27), none⟩]) (
                          .seq (
                            .block 2 (
                              .loop (
                                .seq (
                                  .seq (
                                    .region [
                                      ⟨some 28, .mov (.tmp 6), none⟩,
                                      ⟨some 29, .len true (.tmp 28), none⟩,
                                      ⟨some 30, .bin .gtr .no (.tmp 29) (.const (.int .i64 75)), none⟩]) (
                                    .cond (.tmp 30) (
                                      .skip) (
                                      .exit 2))) (
                                  .block 3 (
                                    .seq (
                                      .region [
                                        ⟨some 31, .mov (.tmp 6), none⟩,
                                        ⟨some 32, .cS2B false (.tmp 31), none⟩,
                                        ⟨some 33, .call (.fn 63) [(.tmp 32), (.const (.int .i64 75))], none⟩,
                                        ⟨some 7, .mov (.tmp 33), none⟩]) (
                                      .seq (
                                        .region [
                                          ⟨some 34, .mov (.tmp 4), none⟩,
                                          ⟨some 35, .mov (.tmp 6), none⟩,
                                          ⟨some 36, .mov (.tmp 7), none⟩,
                                          ⟨some 37, .slc 0 (.tmp 35) none (some (.tmp 36)) none, none⟩,
                                          ⟨some 38, .app true 1 (.tmp 34) (.tmp 37), none⟩,
                                          ⟨some 4, .mov (.tmp 38), none⟩]) (
                                        .seq (
                                          .region [
                                            ⟨some 39, .mov (.tmp 4), none⟩,
                                            ⟨some 40, .lit8 2 [(0, (.const (.b8 13))), (1, (.const (.b8 10)))], none⟩,
                                            ⟨some 41, .app true 1 (.tmp 39) (.tmp 40), none⟩,
                                            ⟨some 4, .mov (.tmp 41), none⟩]) (
                                          .region [
                                            ⟨some 42, .mov (.tmp 6), none⟩,
                                            ⟨some 43, .mov (.tmp 7), none⟩,
                                            ⟨some 44, .slc 0 (.tmp 42) (some (.tmp 43)) none none, none⟩,
                                            ⟨some 45, .bin .add .no (.const (.str [32])) (.tmp 44), none⟩,
                                            ⟨some 6, .mov (.tmp 45), none⟩])))))))) (
                            .seq (
                              .region [
                                ⟨some 46, .mov (.tmp 4), none⟩,
                                ⟨some 47, .mov (.tmp 6), none⟩,
                                ⟨some 48, .app true 1 (.tmp 46) (.tmp 47), none⟩,
                                ⟨some 4, .mov (.tmp 48), none⟩]) (
                              .region [
                                ⟨some 49, .mov (.tmp 4), none⟩,
                                ⟨some 50, .lit8 2 [(0, (.const (.b8 13))), (1, (.const (.b8 10)))], none⟩,
                                ⟨some 51, .app true 1 (.tmp 49) (.tmp 50), none⟩,
                                ⟨some 4, .mov (.tmp 51), none⟩])))))) (
                    .region [
                      ⟨some 15, .mov (.tmp 5), none⟩,
                      ⟨some 16, .bin .add .no (.tmp 15) (.const (.int .i64 1)), none⟩,
                      ⟨some 5, .mov (.tmp 16), none⟩])))))) (
          .seq (
            .region [
              ⟨some 52, .mov (.tmp 4), none⟩,
              ⟨some 2, .mov (.tmp 52), none⟩,
              ⟨some 3, .mov (.const (.int .i64 0)), none⟩]) (
            .ret)))))) }

/-- posthorn/sheet.Right -/
def F_sheet_Right : ACFn := { nt := 60, results := [.tmp 2], body := (
  .seq (
    .region [
      ⟨some 1, .box (.tmp 0), none⟩,
      ⟨some 2, .mov (.const (.bool false)), none⟩]) (
    .seq (
      .seq (
        .region [
          ⟨some 7, .faddr 1 (.tmp 1), none⟩,
          ⟨some 8, .load false 1 (.tmp 7), none⟩,
          ⟨some 9, .len false (.tmp 8), none⟩,
          ⟨some 10, .mov (.const (.int .i64 0)), none⟩]) (
        .block 0 (
          .loop (
            .seq (
              .region [
                ⟨some 11, .bin .lss .no (.tmp 10) (.tmp 9), none⟩]) (
              .seq (
                .cond (.tmp 11) (
                  .skip) (
                  .exit 0)) (
                .seq (
                  .block 1 (
                    .seq (
                      .region [
                        ⟨some 12, .mov (.tmp 10), none⟩,
                        ⟨some 13, .iaddr 2 (.tmp 8) (.tmp 10), none⟩,
                        ⟨some 14, .load true 2 (.tmp 13), none⟩,
                        ⟨some 4, .alloc [.str [], .str []], none⟩,
                        ⟨some 3, .mov (.tmp 12), none⟩,
                        ⟨none, .store 2 (.tmp 4) (.tmp 14), none⟩]) (
                      .seq (
                        .seq (
                          .region [
                            ⟨some 15, .faddr 0 (.tmp 4), none⟩,
                            ⟨some 16, .load false 1 (.tmp 15), none⟩,
                            ⟨some 17, .call (.fn 64) [(.tmp 16)], none⟩,
                            ⟨some 18, .un .not (.tmp 17), none⟩,
                            ⟨some 19, .mov (.tmp 18), none⟩,
                            ⟨some 20, .faddr 1 (.tmp 4), some (19, false)⟩,
                            ⟨some 21, .load false 1 (.tmp 20), some (19, false)⟩,
                            ⟨some 22, .call (.fn 65) [(.tmp 21), (.const (.int .i64 256))], some (19, false)⟩,
                            ⟨some 23, .un .not (.tmp 22), some (19, false)⟩,
                            ⟨some 24, .pick (.tmp 19) (.const (.bool true)) (.tmp 23), none⟩,
                            ⟨some 25, .mov (.tmp 24), none⟩,
                            ⟨some 26, .faddr 1 (.tmp 4), some (25, false)⟩,
                            ⟨some 27, .load false 1 (.tmp 26), some (25, false)⟩,
                            ⟨some 28, .call (.fn 66) [(.tmp 27), (.const (.str [34]))], some (25, false)⟩,
                            ⟨some 29, .pick (.tmp 25) (.const (.bool true)) (.tmp 28), none⟩]) (
                          .cond (.tmp 29) (
                            .seq (
                              .region [
                                ⟨some 2, .mov (.const (.bool false)), none⟩]) (
                              .ret)) (
                            .skip))) (
                        .seq (
                          .region [
                            ⟨some 30, .faddr 1 (.tmp 1), none⟩,
                            ⟨some 31, .load false 1 (.tmp 30), none⟩,
                            ⟨some 32, .mov (.tmp 3), none⟩,
                            ⟨some 33, .slc 2 (.tmp 31) none (some (.tmp 32)) none, none⟩,
                            ⟨some 34, .len false (.tmp 33), none⟩,
                            ⟨some 35, .mov (.const (.int .i64 0)), none⟩]) (
                          .block 2 (
                            .loop (
                              .seq (
                                .region [
                                  ⟨some 36, .bin .lss .no (.tmp 35) (.tmp 34), none⟩]) (
                                .seq (
                                  .cond (.tmp 36) (
                                    .skip) (
                                    .exit 2)) (
                                  .seq (
                                    .block 3 (
                                      .seq (
                                        .region [
                                          ⟨some 37, .iaddr 2 (.tmp 33) (.tmp 35), none⟩,
                                          ⟨some 38, .load true 2 (.tmp 37), none⟩,
                                          ⟨some 6, .alloc [.str [], .str []], none⟩,
                                          ⟨none, .store 2 (.tmp 6) (.tmp 38), none⟩]) (
                                        .seq (
                                          .region [
                                            ⟨some 39, .faddr 0 (.tmp 6), none⟩,
                                            ⟨some 40, .load false 1 (.tmp 39), none⟩,
                                            ⟨some 41, .faddr 0 (.tmp 4), none⟩,
                                            ⟨some 42, .load false 1 (.tmp 41), none⟩,
                                            ⟨some 43, .bin .eql .no (.tmp 40) (.tmp 42), none⟩]) (
                                          .cond (.tmp 43) (
                                            .seq (
                                              .region [
                                                ⟨some 2, .mov (.const (.bool false)), none⟩]) (
                                              .ret)) (
                                            .skip))))) (
                                    .region [
                                      ⟨some 44, .bin .add .no (.tmp 35) (.const (.int .i64 1)), none⟩,
                                      ⟨some 35, .mov (.tmp 44), none⟩])))))))))) (
                  .region [
                    ⟨some 45, .bin .add .no (.tmp 10) (.const (.int .i64 1)), none⟩,
                    ⟨some 10, .mov (.tmp 45), none⟩]))))))) (
      .seq (
        .region [
          ⟨some 46, .faddr 0 (.tmp 1), none⟩,
          ⟨some 47, .load false 1 (.tmp 46), none⟩,
          ⟨some 48, .call (.fn 64) [(.tmp 47)], none⟩,
          ⟨some 49, .mov (.tmp 48), none⟩,
          ⟨some 50, .faddr 2 (.tmp 1), some (49, true)⟩,
          ⟨some 51, .load false 1 (.tmp 50), some (49, true)⟩,
          ⟨some 52, .call (.fn 65) [(.tmp 51), (.const (.int .i64 4096))], some (49, true)⟩,
          ⟨some 53, .pick (.tmp 49) (.tmp 52) (.const (.bool false)), none⟩,
          ⟨some 54, .mov (.tmp 53), none⟩,
          ⟨some 55, .faddr 1 (.tmp 1), some (54, true)⟩,
          ⟨some 56, .load false 1 (.tmp 55), some (54, true)⟩,
          ⟨some 57, .len false (.tmp 56), some (54, true)⟩,
          ⟨some 58, .bin .leq .no (.tmp 57) (.const (.int .i64 16)), some (54, true)⟩,
          ⟨some 59, .pick (.tmp 54) (.tmp 58) (.const (.bool false)), none⟩,
          ⟨some 2, .mov (.tmp 59), none⟩]) (
        .ret)))) }

/-- posthorn/posthornref10.Right -/
def F_posthornref10_Right : ACFn := { nt := 75, results := [.tmp 2], body := (
  .seq (
    .region [
      ⟨some 1, .box (.tmp 0), none⟩,
      ⟨some 2, .mov (.const (.bool false)), none⟩]) (
    .seq (
      .seq (
        .region [
          ⟨some 6, .faddr 0 (.tmp 1), none⟩,
          ⟨some 7, .load false 1 (.tmp 6), none⟩,
          ⟨some 8, .call (.fn 67) [(.tmp 7)], none⟩,
          ⟨some 9, .un .not (.tmp 8), none⟩,
          ⟨some 10, .mov (.tmp 9), none⟩,
          ⟨some 11, .faddr 2 (.tmp 1), some (10, false)⟩,
          ⟨some 12, .load false 1 (.tmp 11), some (10, false)⟩,
          ⟨some 13, .call (.fn 68) [(.tmp 12)], some (10, false)⟩,
          ⟨some 14, .un .not (.tmp 13), some (10, false)⟩,
          ⟨some 15, .pick (.tmp 10) (.const (.bool true)) (.tmp 14), none⟩,
          ⟨some 16, .mov (.tmp 15), none⟩,
          ⟨some 17, .faddr 2 (.tmp 1), some (16, false)⟩,
          ⟨some 18, .load false 1 (.tmp 17), some (16, false)⟩,
          ⟨some 19, .len true (.tmp 18), some (16, false)⟩,
          ⟨some 20, .bin .gtr .no (.tmp 19) (.const (.int .i64 4096)), some (16, false)⟩,
          ⟨some 21, .pick (.tmp 16) (.const (.bool true)) (.tmp 20), none⟩,
          ⟨some 22, .mov (.tmp 21), none⟩,
          ⟨some 23, .faddr 1 (.tmp 1), some (22, false)⟩,
          ⟨some 24, .load false 1 (.tmp 23), some (22, false)⟩,
          ⟨some 25, .len false (.tmp 24), some (22, false)⟩,
          ⟨some 26, .bin .gtr .no (.tmp 25) (.const (.int .i64 16)), some (22, false)⟩,
          ⟨some 27, .pick (.tmp 22) (.const (.bool true)) (.tmp 26), none⟩]) (
        .cond (.tmp 27) (
          .seq (
            .region [
              ⟨some 2, .mov (.const (.bool false)), none⟩]) (
            .ret)) (
          .skip))) (
      .seq (
        .seq (
          .region [
            ⟨some 3, .mov (.const (.int .i64 0)), none⟩]) (
          .block 0 (
            .loop (
              .seq (
                .seq (
                  .region [
                    ⟨some 28, .mov (.tmp 3), none⟩,
                    ⟨some 29, .faddr 1 (.tmp 1), none⟩,
                    ⟨some 30, .load false 1 (.tmp 29), none⟩,
                    ⟨some 31, .len false (.tmp 30), none⟩,
                    ⟨some 32, .bin .lss .no (.tmp 28) (.tmp 31), none⟩]) (
                  .cond (.tmp 32) (
                    .skip) (
                    .exit 0))) (
                .seq (
                  .block 1 (
                    .seq (
                      .region [
                        ⟨some 35, .faddr 1 (.tmp 1), none⟩,
                        ⟨some 36, .load false 1 (.tmp 35), none⟩,
                        ⟨some 37, .mov (.tmp 3), none⟩,
                        ⟨some 38, .iaddr 2 (.tmp 36) (.tmp 37), none⟩,
                        ⟨some 39, .load true 2 (.tmp 38), none⟩,
                        ⟨some 4, .alloc [.str [], .str []], none⟩,
                        ⟨none, .store 2 (.tmp 4) (.tmp 39), none⟩]) (
                      .seq (
                        .seq (
                          .region [
                            ⟨some 40, .faddr 0 (.tmp 4), none⟩,
                            ⟨some 41, .load false 1 (.tmp 40), none⟩,
                            ⟨some 42, .call (.fn 67) [(.tmp 41)], none⟩,
                            ⟨some 43, .un .not (.tmp 42), none⟩,
                            ⟨some 44, .mov (.tmp 43), none⟩,
                            ⟨some 45, .faddr 1 (.tmp 4), some (44, false)⟩,
                            ⟨some 46, .load false 1 (.tmp 45), some (44, false)⟩,
                            ⟨some 47, .call (.fn 68) [(.tmp 46)], some (44, false)⟩,
                            ⟨some 48, .un .not (.tmp 47), some (44, false)⟩,
                            ⟨some 49, .pick (.tmp 44) (.const (.bool true)) (.tmp 48), none⟩,
                            ⟨some 50, .mov (.tmp 49), none⟩,
                            ⟨some 51, .faddr 1 (.tmp 4), some (50, false)⟩,
                            ⟨some 52, .load false 1 (.tmp 51), some (50, false)⟩,
                            ⟨some 53, .len true (.tmp 52), some (50, false)⟩,
                            ⟨some 54, .bin .gtr .no (.tmp 53) (.const (.int .i64 256)), some (50, false)⟩,
                            ⟨some 55, .pick (.tmp 50) (.const (.bool true)) (.tmp 54), none⟩,
                            ⟨some 56, .mov (.tmp 55), none⟩,
                            ⟨some 57, .faddr 1 (.tmp 4), some (56, false)⟩,
                            ⟨some 58, .load false 1 (.tmp 57), some (56, false)⟩,
                            ⟨some 59, .call (.fn 56) [(.tmp 58), (.const (.str [34]))], some (56, false)⟩,
                            ⟨some 60, .pick (.tmp 56) (.const (.bool true)) (.tmp 59), none⟩]) (
                          .cond (.tmp 60) (
                            .seq (
                              .region [
                                ⟨some 2, .mov (.const (.bool false)), none⟩]) (
                              .ret)) (
                            .skip))) (
                        .seq (
                          .region [
                            ⟨some 5, .mov (.const (.int .i64 0)), none⟩]) (
                          .block 2 (
                            .loop (
                              .seq (
                                .seq (
                                  .region [
                                    ⟨some 61, .mov (.tmp 5), none⟩,
                                    ⟨some 62, .mov (.tmp 3), none⟩,
                                    ⟨some 63, .bin .lss .no (.tmp 61) (.tmp 62), none⟩]) (
                                  .cond (.tmp 63) (
                                    .skip) (
                                    .exit 2))) (
                                .seq (
                                  .block 3 (
                                    .seq (
                                      .region [
                                        ⟨some 66, .faddr 1 (.tmp 1), none⟩,
                                        ⟨some 67, .load false 1 (.tmp 66), none⟩,
                                        ⟨some 68, .mov (.tmp 5), none⟩,
                                        ⟨some 69, .iaddr 2 (.tmp 67) (.tmp 68), none⟩,
                                        ⟨some 70, .faddr 0 (.tmp 69), none⟩,
                                        ⟨some 71, .load false 1 (.tmp 70), none⟩,
                                        ⟨some 72, .faddr 0 (.tmp 4), none⟩,
                                        ⟨some 73, .load false 1 (.tmp 72), none⟩,
                                        ⟨some 74, .bin .eql .no (.tmp 71) (.tmp 73), none⟩]) (
                                      .cond (.tmp 74) (
                                        .seq (
                                          .region [
                                            ⟨some 2, .mov (.const (.bool false)), none⟩]) (
                                          .ret)) (
                                        .skip)))) (
                                  .region [
                                    ⟨some 64, .mov (.tmp 5), none⟩,
                                    ⟨some 65, .bin .add .no (.tmp 64) (.const (.int .i64 1)), none⟩,
                                    ⟨some 5, .mov (.tmp 65), none⟩]))))))))) (
                  .region [
                    ⟨some 33, .mov (.tmp 3), none⟩,
                    ⟨some 34, .bin .add .no (.tmp 33) (.const (.int .i64 1)), none⟩,
                    ⟨some 3, .mov (.tmp 34), none⟩])))))) (
        .seq (
          .region [
            ⟨some 2, .mov (.const (.bool true)), none⟩]) (
          .ret))))) }

/-- posthorn/posthornlaw10.SheetWrites -/
def F_posthornlaw10_SheetWrites : ACFn := { nt := 49, results := [.tmp 2], body := (
  .seq (
    .region [
      ⟨some 2, .mov (.const (.bool false)), none⟩]) (
    .seq (
      .seq (
        .region [
          ⟨some 7, .mov (.tmp 0), none⟩,
          ⟨some 8, .call (.fn 47) [(.tmp 7)], none⟩]) (
        .cond (.tmp 8) (
          .seq (
            .region [
              ⟨some 9, .call (.fn 40) [], none⟩,
              ⟨some 2, .mov (.tmp 9), none⟩]) (
            .ret)) (
          .skip))) (
      .seq (
        .region [
          ⟨some 11, .mov (.tmp 0), none⟩,
          ⟨some 12, .call (.fn 48) [(.tmp 11)], none⟩,
          ⟨some 10, .mov (.tmp 12), none⟩,
          ⟨some 13, .ext 0 (.tmp 10), none⟩,
          ⟨some 14, .ext 1 (.tmp 10), none⟩,
          ⟨some 3, .mov (.tmp 13), none⟩,
          ⟨some 4, .mov (.tmp 14), none⟩]) (
        .seq (
          .region [
            ⟨some 16, .mov (.tmp 0), none⟩,
            ⟨some 17, .call (.fn 49) [(.tmp 16)], none⟩,
            ⟨some 15, .mov (.tmp 17), none⟩,
            ⟨some 18, .ext 0 (.tmp 15), none⟩,
            ⟨some 19, .ext 1 (.tmp 15), none⟩,
            ⟨some 5, .mov (.tmp 18), none⟩,
            ⟨some 6, .mov (.tmp 19), none⟩]) (
          .seq (
            .region [
              ⟨some 20, .call (.fn 40) [], none⟩,
              ⟨some 21, .mov (.tmp 20), none⟩,
              ⟨some 22, .mov (.tmp 3), some (21, true)⟩,
              ⟨some 23, .cB2S false (.tmp 22), some (21, true)⟩,
              ⟨some 24, .mov (.tmp 5), some (21, true)⟩,
              ⟨some 25, .cB2S false (.tmp 24), some (21, true)⟩,
              ⟨some 26, .bin .eql .no (.tmp 23) (.tmp 25), some (21, true)⟩,
              ⟨some 27, .pick (.tmp 21) (.tmp 26) (.const (.bool false)), none⟩,
              ⟨some 28, .mov (.tmp 27), none⟩,
              ⟨some 29, .mov (.tmp 4), some (28, true)⟩,
              ⟨some 30, .mov (.tmp 6), some (28, true)⟩,
              ⟨some 31, .bin .eql .no (.tmp 29) (.tmp 30), some (28, true)⟩,
              ⟨some 32, .pick (.tmp 28) (.tmp 31) (.const (.bool false)), none⟩,
              ⟨some 33, .mov (.tmp 32), none⟩,
              ⟨some 34, .mov (.tmp 0), some (33, true)⟩,
              ⟨some 35, .len false (.tmp 34), some (33, true)⟩,
              ⟨some 36, .bin .eql .no (.tmp 35) (.const (.int .i64 0)), some (33, true)⟩,
              ⟨some 37, .mov (.tmp 36), some (33, true)⟩,
              ⟨some 38, .mov (.tmp 0), some (37, false)⟩,
              ⟨some 39, .iaddr 3 (.tmp 38) (.const (.int .i64 0)), some (37, false)⟩,
              ⟨some 40, .loadc true 3 (.tmp 39), some (37, false)⟩,
              ⟨some 41, .call (.fn 50) [(.tmp 40)], some (37, false)⟩,
              ⟨some 42, .mov (.tmp 0), some (37, false)⟩,
              ⟨some 43, .iaddr 3 (.tmp 42) (.const (.int .i64 0)), some (37, false)⟩,
              ⟨some 44, .loadc true 3 (.tmp 43), some (37, false)⟩,
              ⟨some 45, .call (.fn 51) [(.tmp 44)], some (37, false)⟩,
              ⟨some 46, .bin .eql .bool (.tmp 41) (.tmp 45), some (37, false)⟩,
              ⟨some 47, .pick (.tmp 37) (.const (.bool true)) (.tmp 46), some (33, true)⟩,
              ⟨some 48, .pick (.tmp 33) (.tmp 47) (.const (.bool false)), none⟩,
              ⟨some 2, .mov (.tmp 48), none⟩]) (
            .ret)))))) }

/-- posthorn/utf.Valid -/
def F_utf_Valid : ACFn := { nt := 13, results := [.tmp 2], body := (
  .seq (
    .region [
      ⟨some 2, .mov (.const (.bool false)), none⟩]) (
    .seq (
      .region [
        ⟨some 6, .mov (.tmp 0), none⟩,
        ⟨some 7, .call (.fn 69) [(.tmp 6)], none⟩,
        ⟨some 5, .mov (.tmp 7), none⟩,
        ⟨some 8, .ext 0 (.tmp 5), none⟩,
        ⟨some 9, .ext 1 (.tmp 5), none⟩,
        ⟨some 4, .alloc [.int .i64 0, .int .i64 0], none⟩,
        ⟨some 3, .mov (.tmp 8), none⟩,
        ⟨none, .store 2 (.tmp 4) (.tmp 9), none⟩]) (
      .seq (
        .region [
          ⟨some 10, .faddr 1 (.tmp 4), none⟩,
          ⟨some 11, .load false 1 (.tmp 10), none⟩,
          ⟨some 12, .bin .eql .no (.tmp 11) (.const (.int .i64 0)), none⟩,
          ⟨some 2, .mov (.tmp 12), none⟩]) (
        .ret)))) }

/-- posthorn/posthornlaw10.SheetFolds -/
def F_posthornlaw10_SheetFolds : ACFn := { nt := 85, results := [.tmp 2], body := (
  .seq (
    .region [
      ⟨some 2, .mov (.const (.bool false)), none⟩]) (
    .seq (
      .seq (
        .region [
          ⟨some 8, .mov (.tmp 0), none⟩,
          ⟨some 9, .call (.fn 47) [(.tmp 8)], none⟩]) (
        .cond (.tmp 9) (
          .seq (
            .region [
              ⟨some 10, .call (.fn 40) [], none⟩,
              ⟨some 2, .mov (.tmp 10), none⟩]) (
            .ret)) (
          .skip))) (
      .seq (
        .region [
          ⟨some 12, .mov (.tmp 0), none⟩,
          ⟨some 13, .call (.fn 48) [(.tmp 12)], none⟩,
          ⟨some 11, .mov (.tmp 13), none⟩,
          ⟨some 14, .ext 0 (.tmp 11), none⟩,
          ⟨some 15, .ext 1 (.tmp 11), none⟩,
          ⟨some 3, .mov (.tmp 14), none⟩,
          ⟨some 4, .mov (.tmp 15), none⟩]) (
        .seq (
          .seq (
            .region [
              ⟨some 16, .mov (.tmp 4), none⟩,
              ⟨some 17, .bin .neq .no (.tmp 16) (.const (.int .i64 0)), none⟩]) (
            .cond (.tmp 17) (
              .seq (
                .region [
                  ⟨some 18, .call (.fn 40) [], none⟩,
                  ⟨some 2, .mov (.tmp 18), none⟩]) (
                .ret)) (
              .skip))) (
          .seq (
            .region [
              ⟨some 19, .mov (.tmp 3), none⟩,
              ⟨some 20, .call (.fn 8) [(.tmp 19)], none⟩,
              ⟨some 5, .mov (.tmp 20), none⟩]) (
            .seq (
              .seq (
                .region [
                  ⟨some 6, .mov (.const (.int .i64 0)), none⟩]) (
                .block 0 (
                  .loop (
                    .seq (
                      .seq (
                        .region [
                          ⟨some 21, .mov (.tmp 6), none⟩,
                          ⟨some 22, .mov (.tmp 5), none⟩,
                          ⟨some 23, .len false (.tmp 22), none⟩,
                          ⟨some 24, .bin .lss .no (.tmp 21) (.tmp 23), none⟩]) (
                        .cond (.tmp 24) (
                          .skip) (
                          .exit 0))) (
                      .seq (
                        .block 1 (
                          .seq (
                            .region [
                              ⟨some 27, .mov (.tmp 5), none⟩,
                              ⟨some 28, .mov (.tmp 6), none⟩,
                              ⟨some 29, .iaddr 3 (.tmp 27) (.tmp 28), none⟩,
                              ⟨some 30, .faddr 1 (.tmp 29), none⟩,
                              ⟨some 31, .load false 1 (.tmp 30), none⟩,
                              ⟨some 7, .mov (.tmp 31), none⟩]) (
                            .seq (
                              .seq (
                                .region [
                                  ⟨some 32, .mov (.tmp 5), none⟩,
                                  ⟨some 33, .mov (.tmp 6), none⟩,
                                  ⟨some 34, .iaddr 3 (.tmp 32) (.tmp 33), none⟩,
                                  ⟨some 35, .faddr 2 (.tmp 34), none⟩,
                                  ⟨some 36, .load false 1 (.tmp 35), none⟩,
                                  ⟨some 37, .un .not (.tmp 36), none⟩,
                                  ⟨some 38, .mov (.tmp 37), none⟩,
                                  ⟨some 39, .mov (.tmp 7), some (38, false)⟩,
                                  ⟨some 40, .len false (.tmp 39), some (38, false)⟩,
                                  ⟨some 41, .bin .eql .no (.tmp 40) (.const (.int .i64 0)), some (38, false)⟩,
                                  ⟨some 42, .pick (.tmp 38) (.const (.bool true)) (.tmp 41), none⟩,
                                  ⟨some 43, .mov (.tmp 42), none⟩,
                                  ⟨some 44, .mov (.tmp 7), some (43, false)⟩,
                                  ⟨some 45, .len false (.tmp 44), some (43, false)⟩,
                                  ⟨some 46, .bin .gtr .no (.tmp 45) (.const (.int .i64 75)), some (43, false)⟩,
                                  ⟨some 47, .pick (.tmp 43) (.const (.bool true)) (.tmp 46), none⟩,
                                  ⟨some 48, .mov (.tmp 47), none⟩,
                                  ⟨some 49, .mov (.tmp 7), some (48, false)⟩,
                                  ⟨some 50, .call (.fn 53) [(.tmp 49)], some (48, false)⟩,
                                  ⟨some 51, .un .not (.tmp 50), some (48, false)⟩,
                                  ⟨some 52, .pick (.tmp 48) (.const (.bool true)) (.tmp 51), none⟩]) (
                                .cond (.tmp 52) (
                                  .seq (
                                    .region [
                                      ⟨some 2, .mov (.const (.bool false)), none⟩]) (
                                    .ret)) (
                                  .skip))) (
                              .seq (
                                .region [
                                  ⟨some 53, .mov (.tmp 6), none⟩,
                                  ⟨some 54, .bin .add .no (.tmp 53) (.const (.int .i64 1)), none⟩,
                                  ⟨some 55, .mov (.tmp 5), none⟩,
                                  ⟨some 56, .len false (.tmp 55), none⟩,
                                  ⟨some 57, .bin .lss .no (.tmp 54) (.tmp 56), none⟩,
                                  ⟨some 58, .mov (.tmp 57), none⟩,
                                  ⟨some 59, .mov (.tmp 5), some (58, true)⟩,
                                  ⟨some 60, .mov (.tmp 6), some (58, true)⟩,
                                  ⟨some 61, .bin .add .no (.tmp 60) (.const (.int .i64 1)), some (58, true)⟩,
                                  ⟨some 62, .iaddr 3 (.tmp 59) (.tmp 61), some (58, true)⟩,
                                  ⟨some 63, .faddr 1 (.tmp 62), some (58, true)⟩,
                                  ⟨some 64, .load false 1 (.tmp 63), some (58, true)⟩,
                                  ⟨some 65, .len false (.tmp 64), some (58, true)⟩,
                                  ⟨some 66, .bin .gtr .no (.tmp 65) (.const (.int .i64 0)), some (58, true)⟩,
                                  ⟨some 67, .pick (.tmp 58) (.tmp 66) (.const (.bool false)), none⟩,
                                  ⟨some 68, .mov (.tmp 67), none⟩,
                                  ⟨some 69, .mov (.tmp 5), some (68, true)⟩,
                                  ⟨some 70, .mov (.tmp 6), some (68, true)⟩,
                                  ⟨some 71, .bin .add .no (.tmp 70) (.const (.int .i64 1)), some (68, true)⟩,
                                  ⟨some 72, .iaddr 3 (.tmp 69) (.tmp 71), some (68, true)⟩,
                                  ⟨some 73, .faddr 1 (.tmp 72), some (68, true)⟩,
                                  ⟨some 74, .load false 1 (.tmp 73), some (68, true)⟩,
                                  ⟨some 75, .iaddr 1 (.tmp 74) (.const (.int .i64 0)), some (68, true)⟩,
                                  ⟨some 76, .load false 1 (.tmp 75), some (68, true)⟩,
                                  ⟨some 77, .bin .eql .no (.tmp 76) (.const (.b8 32)), some (68, true)⟩,
                                  ⟨some 78, .pick (.tmp 68) (.tmp 77) (.const (.bool false)), none⟩,
                                  ⟨some 79, .mov (.tmp 78), none⟩,
                                  ⟨some 80, .mov (.tmp 7), some (79, true)⟩,
                                  ⟨some 81, .len false (.tmp 80), some (79, true)⟩,
                                  ⟨some 82, .bin .lss .no (.tmp 81) (.const (.int .i64 72)), some (79, true)⟩,
                                  ⟨some 83, .pick (.tmp 79) (.tmp 82) (.const (.bool false)), none⟩]) (
                                .cond (.tmp 83) (
                                  .seq (
                                    .region [
                                      ⟨some 2, .mov (.const (.bool false)), none⟩]) (
                                    .ret)) (
                                  .skip)))))) (
                        .region [
                          ⟨some 25, .mov (.tmp 6), none⟩,
                          ⟨some 26, .bin .add .no (.tmp 25) (.const (.int .i64 1)), none⟩,
                          ⟨some 6, .mov (.tmp 26), none⟩])))))) (
              .seq (
                .region [
                  ⟨some 84, .call (.fn 40) [], none⟩,
                  ⟨some 2, .mov (.tmp 84), none⟩]) (
                .ret)))))))) }

/-- posthorn/sheet.One -/
def F_sheet_One : ACFn := { nt := 83, results := [.cell 2 true 3, .tmp 3], body := (
  .seq (
    .region [
      ⟨some 2, .alloc [.str [], .nils, .str []], none⟩,
      ⟨some 3, .mov (.const (.int .i64 0)), none⟩]) (
    .scope (
      .seq (
        .region [
          ⟨some 4, .alloc [.str [], .nils, .str []], none⟩]) (
        .seq (
          .region [
            ⟨some 10, .mov (.tmp 0), none⟩,
            ⟨some 11, .call (.fn 70) [(.tmp 10), (.const (.str [59, 58]))], none⟩,
            ⟨some 9, .mov (.tmp 11), none⟩,
            ⟨some 12, .ext 0 (.tmp 9), none⟩,
            ⟨some 13, .ext 1 (.tmp 9), none⟩,
            ⟨some 14, .ext 2 (.tmp 9), none⟩,
            ⟨some 5, .mov (.tmp 12), none⟩,
            ⟨some 6, .mov (.tmp 13), none⟩,
            ⟨some 7, .mov (.tmp 14), none⟩]) (
          .seq (
            .region [
              ⟨some 15, .mov (.tmp 5), none⟩,
              ⟨some 16, .call (.fn 71) [(.tmp 15)], none⟩,
              ⟨some 17, .faddr 0 (.tmp 4), none⟩,
              ⟨none, .store 1 (.tmp 17) (.tmp 16), none⟩]) (
            .seq (
              .block 0 (
                .loop (
                  .seq (
                    .seq (
                      .region [
                        ⟨some 18, .mov (.tmp 6), none⟩,
                        ⟨some 19, .bin .eql .no (.tmp 18) (.const (.b8 59)), none⟩]) (
                      .cond (.tmp 19) (
                        .skip) (
                        .exit 0))) (
                    .block 1 (
                      .seq (
                        .region [
                          ⟨some 8, .alloc [.str [], .str []], none⟩]) (
                        .seq (
                          .region [
                            ⟨some 21, .mov (.tmp 7), none⟩,
                            ⟨some 22, .call (.fn 70) [(.tmp 21), (.const (.str [61, 59, 58]))], none⟩,
                            ⟨some 20, .mov (.tmp 22), none⟩,
                            ⟨some 23, .ext 0 (.tmp 20), none⟩,
                            ⟨some 24, .ext 1 (.tmp 20), none⟩,
                            ⟨some 25, .ext 2 (.tmp 20), none⟩,
                            ⟨some 26, .faddr 0 (.tmp 8), none⟩,
                            ⟨none, .store 1 (.tmp 26) (.tmp 23), none⟩,
                            ⟨some 6, .mov (.tmp 24), none⟩,
                            ⟨some 7, .mov (.tmp 25), none⟩]) (
                          .seq (
                            .region [
                              ⟨some 27, .faddr 0 (.tmp 8), none⟩,
                              ⟨some 28, .load false 1 (.tmp 27), none⟩,
                              ⟨some 29, .call (.fn 71) [(.tmp 28)], none⟩,
                              ⟨some 30, .faddr 0 (.tmp 8), none⟩,
                              ⟨none, .store 1 (.tmp 30) (.tmp 29), none⟩]) (
                            .seq (
                              .seq (
                                .region [
                                  ⟨some 31, .mov (.tmp 6), none⟩,
                                  ⟨some 32, .bin .neq .no (.tmp 31) (.const (.b8 61)), none⟩]) (
                                .cond (.tmp 32) (
                                  .goto 0) (
                                  .skip))) (
                              .seq (
                                .seq (
                                  .region [
                                    ⟨some 33, .mov (.tmp 7), none⟩,
                                    ⟨some 34, .call (.fn 72) [(.tmp 33), (.const (.str [34]))], none⟩]) (
                                  .cond (.tmp 34) (
                                    .seq (
                                      .region [
                                        ⟨some 36, .mov (.tmp 7), none⟩,
                                        ⟨some 37, .slc 0 (.tmp 36) (some (.const (.int .i64 1))) none none, none⟩,
                                        ⟨some 38, .call (.fn 70) [(.tmp 37), (.const (.str [34]))], none⟩,
                                        ⟨some 35, .mov (.tmp 38), none⟩,
                                        ⟨some 39, .ext 0 (.tmp 35), none⟩,
                                        ⟨some 40, .ext 1 (.tmp 35), none⟩,
                                        ⟨some 41, .ext 2 (.tmp 35), none⟩,
                                        ⟨some 42, .faddr 1 (.tmp 8), none⟩,
                                        ⟨none, .store 1 (.tmp 42) (.tmp 39), none⟩,
                                        ⟨some 6, .mov (.tmp 40), none⟩,
                                        ⟨some 7, .mov (.tmp 41), none⟩]) (
                                      .seq (
                                        .seq (
                                          .region [
                                            ⟨some 43, .mov (.tmp 6), none⟩,
                                            ⟨some 44, .bin .eql .no (.tmp 43) (.const (.b8 0)), none⟩,
                                            ⟨some 45, .mov (.tmp 44), none⟩,
                                            ⟨some 46, .mov (.tmp 7), some (45, false)⟩,
                                            ⟨some 47, .bin .eql .no (.tmp 46) (.const (.str [])), some (45, false)⟩,
                                            ⟨some 48, .pick (.tmp 45) (.const (.bool true)) (.tmp 47), none⟩]) (
                                          .cond (.tmp 48) (
                                            .goto 0) (
                                            .skip))) (
                                        .seq (
                                          .region [
                                            ⟨some 49, .mov (.tmp 7), none⟩,
                                            ⟨some 50, .idxS (.tmp 49) (.const (.int .i64 0)), none⟩,
                                            ⟨some 51, .mov (.tmp 7), none⟩,
                                            ⟨some 52, .slc 0 (.tmp 51) (some (.const (.int .i64 1))) none none, none⟩,
                                            ⟨some 6, .mov (.tmp 50), none⟩,
                                            ⟨some 7, .mov (.tmp 52), none⟩]) (
                                          .seq (
                                            .region [
                                              ⟨some 53, .mov (.tmp 6), none⟩,
                                              ⟨some 54, .bin .neq .no (.tmp 53) (.const (.b8 59)), none⟩,
                                              ⟨some 55, .mov (.tmp 54), none⟩,
                                              ⟨some 56, .mov (.tmp 6), some (55, true)⟩,
                                              ⟨some 57, .bin .neq .no (.tmp 56) (.const (.b8 58)), some (55, true)⟩,
                                              ⟨some 58, .pick (.tmp 55) (.tmp 57) (.const (.bool false)), none⟩]) (
                                            .cond (.tmp 58) (
                                              .goto 0) (
                                              .skip)))))) (
                                    .region [
                                      ⟨some 60, .mov (.tmp 7), none⟩,
                                      ⟨some 61, .call (.fn 70) [(.tmp 60), (.const (.str [59, 58, 44, 34]))], none⟩,
                                      ⟨some 59, .mov (.tmp 61), none⟩,
                                      ⟨some 62, .ext 0 (.tmp 59), none⟩,
                                      ⟨some 63, .ext 1 (.tmp 59), none⟩,
                                      ⟨some 64, .ext 2 (.tmp 59), none⟩,
                                      ⟨some 65, .faddr 1 (.tmp 8), none⟩,
                                      ⟨none, .store 1 (.tmp 65) (.tmp 62), none⟩,
                                      ⟨some 6, .mov (.tmp 63), none⟩,
                                      ⟨some 7, .mov (.tmp 64), none⟩]))) (
                                .region [
                                  ⟨some 66, .faddr 1 (.tmp 4), none⟩,
                                  ⟨some 67, .load false 1 (.tmp 66), none⟩,
                                  ⟨some 68, .load true 2 (.tmp 8), none⟩,
                                  ⟨some 69, .lit 2 (.agg [.str [], .str []]) 1 [(0, (.tmp 68))], none⟩,
                                  ⟨some 70, .app false 2 (.tmp 67) (.tmp 69), none⟩,
                                  ⟨some 71, .faddr 1 (.tmp 4), none⟩,
                                  ⟨none, .store 1 (.tmp 71) (.tmp 70), none⟩])))))))))) (
              .seq (
                .region [
                  ⟨some 72, .mov (.tmp 7), none⟩,
                  ⟨some 73, .faddr 2 (.tmp 4), none⟩,
                  ⟨none, .store 1 (.tmp 73) (.tmp 72), none⟩]) (
                .seq (
                  .seq (
                    .region [
                      ⟨some 74, .mov (.tmp 6), none⟩,
                      ⟨some 75, .bin .neq .no (.tmp 74) (.const (.b8 58)), none⟩,
                      ⟨some 76, .mov (.tmp 75), none⟩,
                      ⟨some 77, .load true 3 (.tmp 4), some (76, false)⟩,
                      ⟨some 78, .call (.fn 50) [(.tmp 77)], some (76, false)⟩,
                      ⟨some 79, .un .not (.tmp 78), some (76, false)⟩,
                      ⟨some 80, .pick (.tmp 76) (.const (.bool true)) (.tmp 79), none⟩]) (
                    .cond (.tmp 80) (
                      .goto 0) (
                      .skip))) (
                  .seq (
                    .seq (
                      .region [
                        ⟨some 81, .load true 3 (.tmp 4), none⟩,
                        ⟨none, .store 3 (.tmp 2) (.tmp 81), none⟩,
                        ⟨some 3, .mov (.const (.int .i64 0)), none⟩]) (
                      .ret)) (
                    .seq (
                      .label 0) (
                      .seq (
                        .region [
                          ⟨some 82, .build [.str [], .nils, .str []] [], none⟩,
                          ⟨none, .store 3 (.tmp 2) (.tmp 82), none⟩,
                          ⟨some 3, .mov (.const (.int .i64 90)), none⟩]) (
                        .ret)))))))))))) }

/-- posthorn/posthornref04.Has -/
def F_posthornref04_Has : ACFn := { nt := 24, results := [.tmp 4], body := (
  .seq (
    .region [
      ⟨some 4, .mov (.const (.bool false)), none⟩]) (
    .seq (
      .seq (
        .region [
          ⟨some 5, .mov (.const (.int .i64 0)), none⟩]) (
        .block 0 (
          .loop (
            .seq (
              .seq (
                .region [
                  ⟨some 6, .mov (.tmp 5), none⟩,
                  ⟨some 7, .mov (.tmp 1), none⟩,
                  ⟨some 8, .len true (.tmp 7), none⟩,
                  ⟨some 9, .bin .add .no (.tmp 6) (.tmp 8), none⟩,
                  ⟨some 10, .mov (.tmp 0), none⟩,
                  ⟨some 11, .len true (.tmp 10), none⟩,
                  ⟨some 12, .bin .leq .no (.tmp 9) (.tmp 11), none⟩]) (
                .cond (.tmp 12) (
                  .skip) (
                  .exit 0))) (
              .seq (
                .block 1 (
                  .seq (
                    .region [
                      ⟨some 15, .mov (.tmp 0), none⟩,
                      ⟨some 16, .mov (.tmp 5), none⟩,
                      ⟨some 17, .mov (.tmp 5), none⟩,
                      ⟨some 18, .mov (.tmp 1), none⟩,
                      ⟨some 19, .len true (.tmp 18), none⟩,
                      ⟨some 20, .bin .add .no (.tmp 17) (.tmp 19), none⟩,
                      ⟨some 21, .slc 0 (.tmp 15) (some (.tmp 16)) (some (.tmp 20)) none, none⟩,
                      ⟨some 22, .mov (.tmp 1), none⟩,
                      ⟨some 23, .bin .eql .no (.tmp 21) (.tmp 22), none⟩]) (
                    .cond (.tmp 23) (
                      .seq (
                        .region [
                          ⟨some 4, .mov (.const (.bool true)), none⟩]) (
                        .ret)) (
                      .skip)))) (
                .region [
                  ⟨some 13, .mov (.tmp 5), none⟩,
                  ⟨some 14, .bin .add .no (.tmp 13) (.const (.int .i64 1)), none⟩,
                  ⟨some 5, .mov (.tmp 14), none⟩])))))) (
      .seq (
        .region [
          ⟨some 4, .mov (.const (.bool false)), none⟩]) (
        .ret)))) }

/-- (*strings.Builder).WriteByte -/
def F_P_strings_Builder_WriteByte : ACFn := { nt := 17, results := [.tmp 4], body := (
  .seq (
    .region [
      ⟨some 4, .mov (.const (.nili)), none⟩]) (
    .seq (
      .region [
        ⟨some 5, .mov (.tmp 0), none⟩,
        ⟨some 6, .call (.fn 73) [(.tmp 5)], none⟩]) (
      .seq (
        .region [
          ⟨some 7, .mov (.tmp 0), none⟩,
          ⟨some 8, .mov (.tmp 0), none⟩,
          ⟨some 9, .nilck (.tmp 8), none⟩,
          ⟨some 10, .faddr 1 (.tmp 9), none⟩,
          ⟨some 11, .load false 1 (.tmp 10), none⟩,
          ⟨some 12, .mov (.tmp 1), none⟩,
          ⟨some 13, .lit8 1 [(0, (.tmp 12))], none⟩,
          ⟨some 14, .app true 1 (.tmp 11) (.tmp 13), none⟩,
          ⟨some 15, .nilck (.tmp 7), none⟩,
          ⟨some 16, .faddr 1 (.tmp 15), none⟩,
          ⟨none, .store 1 (.tmp 16) (.tmp 14), none⟩]) (
        .seq (
          .region [
            ⟨some 4, .mov (.const (.nili)), none⟩]) (
          .ret))))) }

/-- (*strings.Builder).WriteString -/
def F_P_strings_Builder_WriteString : ACFn := { nt := 19, results := [.tmp 4, .tmp 5], body := (
  .seq (
    .region [
      ⟨some 4, .mov (.const (.int .i64 0)), none⟩,
      ⟨some 5, .mov (.const (.nili)), none⟩]) (
    .seq (
      .region [
        ⟨some 6, .mov (.tmp 0), none⟩,
        ⟨some 7, .call (.fn 73) [(.tmp 6)], none⟩]) (
      .seq (
        .region [
          ⟨some 8, .mov (.tmp 0), none⟩,
          ⟨some 9, .mov (.tmp 0), none⟩,
          ⟨some 10, .nilck (.tmp 9), none⟩,
          ⟨some 11, .faddr 1 (.tmp 10), none⟩,
          ⟨some 12, .load false 1 (.tmp 11), none⟩,
          ⟨some 13, .mov (.tmp 1), none⟩,
          ⟨some 14, .app true 1 (.tmp 12) (.tmp 13), none⟩,
          ⟨some 15, .nilck (.tmp 8), none⟩,
          ⟨some 16, .faddr 1 (.tmp 15), none⟩,
          ⟨none, .store 1 (.tmp 16) (.tmp 14), none⟩]) (
        .seq (
          .region [
            ⟨some 17, .mov (.tmp 1), none⟩,
            ⟨some 18, .len true (.tmp 17), none⟩,
            ⟨some 4, .mov (.tmp 18), none⟩,
            ⟨some 5, .mov (.const (.nili)), none⟩]) (
          .ret))))) }

/-- posthorn/sheet.line -/
def F_sheet_line : ACFn := { nt := 45, results := [.tmp 2], body := (
  .seq (
    .region [
      ⟨some 1, .box (.tmp 0), none⟩,
      ⟨some 2, .mov (.const (.str [])), none⟩]) (
    .seq (
      .region [
        ⟨some 7, .faddr 0 (.tmp 1), none⟩,
        ⟨some 8, .load false 1 (.tmp 7), none⟩,
        ⟨some 3, .mov (.tmp 8), none⟩]) (
      .seq (
        .seq (
          .region [
            ⟨some 9, .faddr 1 (.tmp 1), none⟩,
            ⟨some 10, .load false 1 (.tmp 9), none⟩,
            ⟨some 11, .len false (.tmp 10), none⟩,
            ⟨some 12, .mov (.const (.int .i64 0)), none⟩]) (
          .block 0 (
            .loop (
              .seq (
                .region [
                  ⟨some 13, .bin .lss .no (.tmp 12) (.tmp 11), none⟩]) (
                .seq (
                  .cond (.tmp 13) (
                    .skip) (
                    .exit 0)) (
                  .seq (
                    .block 1 (
                      .seq (
                        .region [
                          ⟨some 14, .iaddr 2 (.tmp 10) (.tmp 12), none⟩,
                          ⟨some 15, .load true 2 (.tmp 14), none⟩,
                          ⟨some 5, .alloc [.str [], .str []], none⟩,
                          ⟨none, .store 2 (.tmp 5) (.tmp 15), none⟩]) (
                        .seq (
                          .region [
                            ⟨some 16, .faddr 1 (.tmp 5), none⟩,
                            ⟨some 17, .load false 1 (.tmp 16), none⟩,
                            ⟨some 6, .mov (.tmp 17), none⟩]) (
                          .seq (
                            .seq (
                              .region [
                                ⟨some 18, .mov (.tmp 6), none⟩,
                                ⟨some 19, .call (.fn 66) [(.tmp 18), (.const (.str [59]))], none⟩,
                                ⟨some 20, .mov (.tmp 19), none⟩,
                                ⟨some 21, .mov (.tmp 6), some (20, false)⟩,
                                ⟨some 22, .call (.fn 66) [(.tmp 21), (.const (.str [58]))], some (20, false)⟩,
                                ⟨some 23, .pick (.tmp 20) (.const (.bool true)) (.tmp 22), none⟩,
                                ⟨some 24, .mov (.tmp 23), none⟩,
                                ⟨some 25, .mov (.tmp 6), some (24, false)⟩,
                                ⟨some 26, .call (.fn 66) [(.tmp 25), (.const (.str [44]))], some (24, false)⟩,
                                ⟨some 27, .pick (.tmp 24) (.const (.bool true)) (.tmp 26), none⟩]) (
                              .cond (.tmp 27) (
                                .region [
                                  ⟨some 28, .mov (.tmp 6), none⟩,
                                  ⟨some 29, .bin .add .no (.const (.str [34])) (.tmp 28), none⟩,
                                  ⟨some 30, .bin .add .no (.tmp 29) (.const (.str [34])), none⟩,
                                  ⟨some 6, .mov (.tmp 30), none⟩]) (
                                .skip))) (
                            .region [
                              ⟨some 31, .mov (.tmp 3), none⟩,
                              ⟨some 32, .faddr 0 (.tmp 5), none⟩,
                              ⟨some 33, .load false 1 (.tmp 32), none⟩,
                              ⟨some 34, .bin .add .no (.const (.str [59])) (.tmp 33), none⟩,
                              ⟨some 35, .bin .add .no (.tmp 34) (.const (.str [61])), none⟩,
                              ⟨some 36, .mov (.tmp 6), none⟩,
                              ⟨some 37, .bin .add .no (.tmp 35) (.tmp 36), none⟩,
                              ⟨some 38, .bin .add .no (.tmp 31) (.tmp 37), none⟩,
                              ⟨some 3, .mov (.tmp 38), none⟩]))))) (
                    .region [
                      ⟨some 39, .bin .add .no (.tmp 12) (.const (.int .i64 1)), none⟩,
                      ⟨some 12, .mov (.tmp 39), none⟩]))))))) (
        .seq (
          .region [
            ⟨some 40, .mov (.tmp 3), none⟩,
            ⟨some 41, .bin .add .no (.tmp 40) (.const (.str [58])), none⟩,
            ⟨some 42, .faddr 2 (.tmp 1), none⟩,
            ⟨some 43, .load false 1 (.tmp 42), none⟩,
            ⟨some 44, .bin .add .no (.tmp 41) (.tmp 43), none⟩,
            ⟨some 2, .mov (.tmp 44), none⟩]) (
          .ret))))) }

/-- posthorn/utf.Cut -/
def F_utf_Cut : ACFn := { nt := 33, results := [.tmp 4], body := (
  .seq (
    .region [
      ⟨some 4, .mov (.const (.int .i64 0)), none⟩]) (
    .seq (
      .region [
        ⟨some 5, .mov (.tmp 1), none⟩,
        ⟨some 6, .mov (.tmp 0), none⟩,
        ⟨some 7, .len false (.tmp 6), none⟩,
        ⟨some 8, .mnmx false [(.tmp 5), (.tmp 7)], none⟩,
        ⟨some 9, .mnmx true [(.tmp 8), (.const (.int .i64 0))], none⟩,
        ⟨some 1, .mov (.tmp 9), none⟩]) (
      .seq (
        .seq (
          .region [
            ⟨some 10, .mov (.tmp 0), none⟩,
            ⟨some 11, .call (.fn 53) [(.tmp 10)], none⟩,
            ⟨some 12, .un .not (.tmp 11), none⟩]) (
          .cond (.tmp 12) (
            .seq (
              .region [
                ⟨some 13, .mov (.tmp 1), none⟩,
                ⟨some 4, .mov (.tmp 13), none⟩]) (
              .ret)) (
            .skip))) (
        .seq (
          .block 0 (
            .loop (
              .seq (
                .seq (
                  .region [
                    ⟨some 14, .mov (.tmp 1), none⟩,
                    ⟨some 15, .bin .gtr .no (.tmp 14) (.const (.int .i64 0)), none⟩,
                    ⟨some 16, .mov (.tmp 15), none⟩,
                    ⟨some 17, .mov (.tmp 1), some (16, true)⟩,
                    ⟨some 18, .mov (.tmp 0), some (16, true)⟩,
                    ⟨some 19, .len false (.tmp 18), some (16, true)⟩,
                    ⟨some 20, .bin .lss .no (.tmp 17) (.tmp 19), some (16, true)⟩,
                    ⟨some 21, .pick (.tmp 16) (.tmp 20) (.const (.bool false)), none⟩,
                    ⟨some 22, .mov (.tmp 21), none⟩,
                    ⟨some 23, .mov (.tmp 0), some (22, true)⟩,
                    ⟨some 24, .mov (.tmp 1), some (22, true)⟩,
                    ⟨some 25, .iaddr 1 (.tmp 23) (.tmp 24), some (22, true)⟩,
                    ⟨some 26, .load false 1 (.tmp 25), some (22, true)⟩,
                    ⟨some 27, .bin .shr .no (.tmp 26) (.const (.int .u64 6)), some (22, true)⟩,
                    ⟨some 28, .bin .eql .no (.tmp 27) (.const (.b8 2)), some (22, true)⟩,
                    ⟨some 29, .pick (.tmp 22) (.tmp 28) (.const (.bool false)), none⟩]) (
                  .cond (.tmp 29) (
                    .skip) (
                    .exit 0))) (
                .block 1 (
                  .region [
                    ⟨some 30, .mov (.tmp 1), none⟩,
                    ⟨some 31, .bin .sub .no (.tmp 30) (.const (.int .i64 1)), none⟩,
                    ⟨some 1, .mov (.tmp 31), none⟩]))))) (
          .seq (
            .region [
              ⟨some 32, .mov (.tmp 1), none⟩,
              ⟨some 4, .mov (.tmp 32), none⟩]) (
            .ret)))))) }

/-- posthorn/posthornref10.Plain -/
def F_posthornref10_Plain : ACFn := { nt := 51, results := [.tmp 2], body := (
  .seq (
    .region [
      ⟨some 1, .box (.tmp 0), none⟩,
      ⟨some 2, .mov (.const (.str [])), none⟩]) (
    .seq (
      .region [
        ⟨some 6, .faddr 0 (.tmp 1), none⟩,
        ⟨some 7, .load false 1 (.tmp 6), none⟩,
        ⟨some 3, .mov (.tmp 7), none⟩]) (
      .seq (
        .seq (
          .region [
            ⟨some 4, .mov (.const (.int .i64 0)), none⟩]) (
          .block 0 (
            .loop (
              .seq (
                .seq (
                  .region [
                    ⟨some 8, .mov (.tmp 4), none⟩,
                    ⟨some 9, .faddr 1 (.tmp 1), none⟩,
                    ⟨some 10, .load false 1 (.tmp 9), none⟩,
                    ⟨some 11, .len false (.tmp 10), none⟩,
                    ⟨some 12, .bin .lss .no (.tmp 8) (.tmp 11), none⟩]) (
                  .cond (.tmp 12) (
                    .skip) (
                    .exit 0))) (
                .seq (
                  .block 1 (
                    .seq (
                      .region [
                        ⟨some 15, .faddr 1 (.tmp 1), none⟩,
                        ⟨some 16, .load false 1 (.tmp 15), none⟩,
                        ⟨some 17, .mov (.tmp 4), none⟩,
                        ⟨some 18, .iaddr 2 (.tmp 16) (.tmp 17), none⟩,
                        ⟨some 19, .faddr 1 (.tmp 18), none⟩,
                        ⟨some 20, .load false 1 (.tmp 19), none⟩,
                        ⟨some 5, .mov (.tmp 20), none⟩]) (
                      .seq (
                        .seq (
                          .region [
                            ⟨some 21, .mov (.tmp 5), none⟩,
                            ⟨some 22, .call (.fn 56) [(.tmp 21), (.const (.str [59]))], none⟩,
                            ⟨some 23, .mov (.tmp 22), none⟩,
                            ⟨some 24, .mov (.tmp 5), some (23, false)⟩,
                            ⟨some 25, .call (.fn 56) [(.tmp 24), (.const (.str [58]))], some (23, false)⟩,
                            ⟨some 26, .pick (.tmp 23) (.const (.bool true)) (.tmp 25), none⟩,
                            ⟨some 27, .mov (.tmp 26), none⟩,
                            ⟨some 28, .mov (.tmp 5), some (27, false)⟩,
                            ⟨some 29, .call (.fn 56) [(.tmp 28), (.const (.str [44]))], some (27, false)⟩,
                            ⟨some 30, .pick (.tmp 27) (.const (.bool true)) (.tmp 29), none⟩]) (
                          .cond (.tmp 30) (
                            .region [
                              ⟨some 31, .mov (.tmp 5), none⟩,
                              ⟨some 32, .bin .add .no (.const (.str [34])) (.tmp 31), none⟩,
                              ⟨some 33, .bin .add .no (.tmp 32) (.const (.str [34])), none⟩,
                              ⟨some 5, .mov (.tmp 33), none⟩]) (
                            .skip))) (
                        .region [
                          ⟨some 34, .mov (.tmp 3), none⟩,
                          ⟨some 35, .bin .add .no (.tmp 34) (.const (.str [59])), none⟩,
                          ⟨some 36, .faddr 1 (.tmp 1), none⟩,
                          ⟨some 37, .load false 1 (.tmp 36), none⟩,
                          ⟨some 38, .mov (.tmp 4), none⟩,
                          ⟨some 39, .iaddr 2 (.tmp 37) (.tmp 38), none⟩,
                          ⟨some 40, .faddr 0 (.tmp 39), none⟩,
                          ⟨some 41, .load false 1 (.tmp 40), none⟩,
                          ⟨some 42, .bin .add .no (.tmp 35) (.tmp 41), none⟩,
                          ⟨some 43, .bin .add .no (.tmp 42) (.const (.str [61])), none⟩,
                          ⟨some 44, .mov (.tmp 5), none⟩,
                          ⟨some 45, .bin .add .no (.tmp 43) (.tmp 44), none⟩,
                          ⟨some 3, .mov (.tmp 45), none⟩])))) (
                  .region [
                    ⟨some 13, .mov (.tmp 4), none⟩,
                    ⟨some 14, .bin .add .no (.tmp 13) (.const (.int .i64 1)), none⟩,
                    ⟨some 4, .mov (.tmp 14), none⟩])))))) (
        .seq (
          .region [
            ⟨some 46, .mov (.tmp 3), none⟩,
            ⟨some 47, .bin .add .no (.tmp 46) (.const (.str [58])), none⟩,
            ⟨some 48, .faddr 2 (.tmp 1), none⟩,
            ⟨some 49, .load false 1 (.tmp 48), none⟩,
            ⟨some 50, .bin .add .no (.tmp 47) (.tmp 49), none⟩,
            ⟨some 2, .mov (.tmp 50), none⟩]) (
          .ret))))) }

/-- posthorn/posthornref02.Cut -/
def F_posthornref02_Cut : ACFn := { nt := 43, results := [.tmp 4], body := (
  .seq (
    .region [
      ⟨some 4, .mov (.const (.int .i64 0)), none⟩]) (
    .seq (
      .seq (
        .region [
          ⟨some 9, .mov (.tmp 1), none⟩,
          ⟨some 10, .bin .lss .no (.tmp 9) (.const (.int .i64 0)), none⟩]) (
        .cond (.tmp 10) (
          .seq (
            .region [
              ⟨some 4, .mov (.const (.int .i64 0)), none⟩]) (
            .ret)) (
          .skip))) (
      .seq (
        .seq (
          .region [
            ⟨some 11, .mov (.tmp 0), none⟩,
            ⟨some 12, .call (.fn 74) [(.tmp 11)], none⟩,
            ⟨some 13, .un .not (.tmp 12), none⟩]) (
          .cond (.tmp 13) (
            .seq (
              .seq (
                .region [
                  ⟨some 14, .mov (.tmp 1), none⟩,
                  ⟨some 15, .mov (.tmp 0), none⟩,
                  ⟨some 16, .len false (.tmp 15), none⟩,
                  ⟨some 17, .bin .lss .no (.tmp 14) (.tmp 16), none⟩]) (
                .cond (.tmp 17) (
                  .seq (
                    .region [
                      ⟨some 18, .mov (.tmp 1), none⟩,
                      ⟨some 4, .mov (.tmp 18), none⟩]) (
                    .ret)) (
                  .skip))) (
              .seq (
                .region [
                  ⟨some 19, .mov (.tmp 0), none⟩,
                  ⟨some 20, .len false (.tmp 19), none⟩,
                  ⟨some 4, .mov (.tmp 20), none⟩]) (
                .ret))) (
            .skip))) (
        .seq (
          .region [
            ⟨some 5, .mov (.const (.int .i64 0)), none⟩]) (
          .seq (
            .block 0 (
              .loop (
                .seq (
                  .seq (
                    .region [
                      ⟨some 21, .mov (.tmp 5), none⟩,
                      ⟨some 22, .mov (.tmp 0), none⟩,
                      ⟨some 23, .len false (.tmp 22), none⟩,
                      ⟨some 24, .bin .lss .no (.tmp 21) (.tmp 23), none⟩]) (
                    .cond (.tmp 24) (
                      .skip) (
                      .exit 0))) (
                  .block 1 (
                    .seq (
                      .region [
                        ⟨some 26, .mov (.tmp 0), none⟩,
                        ⟨some 27, .mov (.tmp 5), none⟩,
                        ⟨some 28, .slc 1 (.tmp 26) (some (.tmp 27)) none none, none⟩,
                        ⟨some 29, .call (.fn 75) [(.tmp 28)], none⟩,
                        ⟨some 25, .mov (.tmp 29), none⟩,
                        ⟨some 30, .ext 0 (.tmp 25), none⟩,
                        ⟨some 31, .ext 1 (.tmp 25), none⟩,
                        ⟨some 32, .ext 2 (.tmp 25), none⟩,
                        ⟨some 6, .mov (.tmp 30), none⟩,
                        ⟨some 7, .mov (.tmp 31), none⟩,
                        ⟨some 8, .mov (.tmp 32), none⟩]) (
                      .seq (
                        .seq (
                          .region [
                            ⟨some 33, .mov (.tmp 7), none⟩,
                            ⟨some 34, .mov (.tmp 1), none⟩,
                            ⟨some 35, .mov (.tmp 5), none⟩,
                            ⟨some 36, .bin .sub .no (.tmp 34) (.tmp 35), none⟩,
                            ⟨some 37, .bin .gtr .no (.tmp 33) (.tmp 36), none⟩]) (
                          .cond (.tmp 37) (
                            .seq (
                              .region [
                                ⟨some 38, .mov (.tmp 5), none⟩,
                                ⟨some 4, .mov (.tmp 38), none⟩]) (
                              .ret)) (
                            .skip))) (
                        .region [
                          ⟨some 39, .mov (.tmp 5), none⟩,
                          ⟨some 40, .mov (.tmp 7), none⟩,
                          ⟨some 41, .bin .add .no (.tmp 39) (.tmp 40), none⟩,
                          ⟨some 5, .mov (.tmp 41), none⟩]))))))) (
            .seq (
              .region [
                ⟨some 42, .mov (.tmp 5), none⟩,
                ⟨some 4, .mov (.tmp 42), none⟩]) (
              .ret))))))) }

/-- posthorn/sheet.isName -/
def F_sheet_isName : ACFn := { nt := 40, results := [.tmp 2], body := (
  .seq (
    .region [
      ⟨some 2, .mov (.const (.bool false)), none⟩]) (
    .seq (
      .seq (
        .region [
          ⟨some 5, .mov (.tmp 0), none⟩,
          ⟨some 6, .len true (.tmp 5), none⟩,
          ⟨some 7, .mov (.const (.int .i64 0)), none⟩]) (
        .block 0 (
          .loop (
            .seq (
              .region [
                ⟨some 8, .bin .lss .no (.tmp 7) (.tmp 6), none⟩]) (
              .seq (
                .cond (.tmp 8) (
                  .skip) (
                  .exit 0)) (
                .seq (
                  .block 1 (
                    .seq (
                      .region [
                        ⟨some 9, .mov (.tmp 7), none⟩,
                        ⟨some 3, .mov (.tmp 9), none⟩]) (
                      .seq (
                        .region [
                          ⟨some 10, .mov (.tmp 0), none⟩,
                          ⟨some 11, .mov (.tmp 3), none⟩,
                          ⟨some 12, .idxS (.tmp 10) (.tmp 11), none⟩,
                          ⟨some 4, .mov (.tmp 12), none⟩]) (
                        .seq (
                          .region [
                            ⟨some 13, .mov (.tmp 4), none⟩,
                            ⟨some 14, .bin .geq .no (.tmp 13) (.const (.b8 65)), none⟩,
                            ⟨some 15, .mov (.tmp 14), none⟩,
                            ⟨some 16, .mov (.tmp 4), some (15, true)⟩,
                            ⟨some 17, .bin .leq .no (.tmp 16) (.const (.b8 90)), some (15, true)⟩,
                            ⟨some 18, .pick (.tmp 15) (.tmp 17) (.const (.bool false)), none⟩,
                            ⟨some 19, .mov (.tmp 18), none⟩,
                            ⟨some 20, .mov (.tmp 4), some (19, false)⟩,
                            ⟨some 21, .bin .geq .no (.tmp 20) (.const (.b8 48)), some (19, false)⟩,
                            ⟨some 22, .mov (.tmp 21), some (19, false)⟩,
                            ⟨some 23, .mov (.tmp 4), some (22, true)⟩,
                            ⟨some 24, .bin .leq .no (.tmp 23) (.const (.b8 57)), some (22, true)⟩,
                            ⟨some 25, .pick (.tmp 22) (.tmp 24) (.const (.bool false)), some (19, false)⟩,
                            ⟨some 26, .pick (.tmp 19) (.const (.bool true)) (.tmp 25), none⟩,
                            ⟨some 27, .mov (.tmp 26), none⟩,
                            ⟨some 28, .mov (.tmp 4), some (27, false)⟩,
                            ⟨some 29, .bin .eql .no (.tmp 28) (.const (.b8 45)), some (27, false)⟩,
                            ⟨some 30, .pick (.tmp 27) (.const (.bool true)) (.tmp 29), none⟩,
                            ⟨some 31, .un .not (.tmp 30), none⟩]) (
                          .cond (.tmp 31) (
                            .seq (
                              .region [
                                ⟨some 2, .mov (.const (.bool false)), none⟩]) (
                              .ret)) (
                            .skip)))))) (
                  .region [
                    ⟨some 32, .bin .add .no (.tmp 7) (.const (.int .i64 1)), none⟩,
                    ⟨some 7, .mov (.tmp 32), none⟩]))))))) (
      .seq (
        .region [
          ⟨some 33, .mov (.tmp 0), none⟩,
          ⟨some 34, .bin .neq .no (.tmp 33) (.const (.str [])), none⟩,
          ⟨some 35, .mov (.tmp 34), none⟩,
          ⟨some 36, .mov (.tmp 0), some (35, true)⟩,
          ⟨some 37, .len true (.tmp 36), some (35, true)⟩,
          ⟨some 38, .bin .leq .no (.tmp 37) (.const (.int .i64 64)), some (35, true)⟩,
          ⟨some 39, .pick (.tmp 35) (.tmp 38) (.const (.bool false)), none⟩,
          ⟨some 2, .mov (.tmp 39), none⟩]) (
        .ret)))) }

/-- posthorn/sheet.isText -/
def F_sheet_isText : ACFn := { nt := 37, results := [.tmp 4], body := (
  .seq (
    .region [
      ⟨some 4, .mov (.const (.bool false)), none⟩]) (
    .seq (
      .seq (
        .region [
          ⟨some 6, .mov (.tmp 0), none⟩,
          ⟨some 7, .len true (.tmp 6), none⟩,
          ⟨some 8, .mov (.const (.int .i64 0)), none⟩]) (
        .block 0 (
          .loop (
            .seq (
              .region [
                ⟨some 9, .bin .lss .no (.tmp 8) (.tmp 7), none⟩]) (
              .seq (
                .cond (.tmp 9) (
                  .skip) (
                  .exit 0)) (
                .seq (
                  .block 1 (
                    .seq (
                      .region [
                        ⟨some 10, .mov (.tmp 8), none⟩,
                        ⟨some 5, .mov (.tmp 10), none⟩]) (
                      .seq (
                        .region [
                          ⟨some 11, .mov (.tmp 0), none⟩,
                          ⟨some 12, .mov (.tmp 5), none⟩,
                          ⟨some 13, .idxS (.tmp 11) (.tmp 12), none⟩,
                          ⟨some 14, .bin .lss .no (.tmp 13) (.const (.b8 32)), none⟩,
                          ⟨some 15, .mov (.tmp 14), none⟩,
                          ⟨some 16, .mov (.tmp 0), some (15, true)⟩,
                          ⟨some 17, .mov (.tmp 5), some (15, true)⟩,
                          ⟨some 18, .idxS (.tmp 16) (.tmp 17), some (15, true)⟩,
                          ⟨some 19, .bin .neq .no (.tmp 18) (.const (.b8 9)), some (15, true)⟩,
                          ⟨some 20, .pick (.tmp 15) (.tmp 19) (.const (.bool false)), none⟩,
                          ⟨some 21, .mov (.tmp 20), none⟩,
                          ⟨some 22, .mov (.tmp 0), some (21, false)⟩,
                          ⟨some 23, .mov (.tmp 5), some (21, false)⟩,
                          ⟨some 24, .idxS (.tmp 22) (.tmp 23), some (21, false)⟩,
                          ⟨some 25, .bin .eql .no (.tmp 24) (.const (.b8 127)), some (21, false)⟩,
                          ⟨some 26, .pick (.tmp 21) (.const (.bool true)) (.tmp 25), none⟩]) (
                        .cond (.tmp 26) (
                          .seq (
                            .region [
                              ⟨some 4, .mov (.const (.bool false)), none⟩]) (
                            .ret)) (
                          .skip))))) (
                  .region [
                    ⟨some 27, .bin .add .no (.tmp 8) (.const (.int .i64 1)), none⟩,
                    ⟨some 8, .mov (.tmp 27), none⟩]))))))) (
      .seq (
        .region [
          ⟨some 28, .mov (.tmp 0), none⟩,
          ⟨some 29, .len true (.tmp 28), none⟩,
          ⟨some 30, .mov (.tmp 1), none⟩,
          ⟨some 31, .bin .leq .no (.tmp 29) (.tmp 30), none⟩,
          ⟨some 32, .mov (.tmp 31), none⟩,
          ⟨some 33, .mov (.tmp 0), some (32, true)⟩,
          ⟨some 34, .cS2B false (.tmp 33), some (32, true)⟩,
          ⟨some 35, .call (.fn 53) [(.tmp 34)], some (32, true)⟩,
          ⟨some 36, .pick (.tmp 32) (.tmp 35) (.const (.bool false)), none⟩,
          ⟨some 4, .mov (.tmp 36), none⟩]) (
        .ret)))) }

/-- strings.Contains -/
def F_strings_Contains : ACFn := { nt := 9, results := [.tmp 4], body := (
  .seq (
    .region [
      ⟨some 4, .mov (.const (.bool false)), none⟩]) (
    .seq (
      .region [
        ⟨some 5, .mov (.tmp 0), none⟩,
        ⟨some 6, .mov (.tmp 1), none⟩,
        ⟨some 7, .call (.fn 76) [(.tmp 5), (.tmp 6)], none⟩,
        ⟨some 8, .bin .geq .no (.tmp 7) (.const (.int .i64 0)), none⟩,
        ⟨some 4, .mov (.tmp 8), none⟩]) (
      .ret))) }

/-- posthorn/posthornref10.Name -/
def F_posthornref10_Name : ACFn := { nt := 47, results := [.tmp 2], body := (
  .seq (
    .region [
      ⟨some 2, .mov (.const (.bool false)), none⟩]) (
    .seq (
      .seq (
        .region [
          ⟨some 3, .mov (.const (.int .i64 0)), none⟩]) (
        .block 0 (
          .loop (
            .seq (
              .seq (
                .region [
                  ⟨some 4, .mov (.tmp 3), none⟩,
                  ⟨some 5, .mov (.tmp 0), none⟩,
                  ⟨some 6, .len true (.tmp 5), none⟩,
                  ⟨some 7, .bin .lss .no (.tmp 4) (.tmp 6), none⟩]) (
                .cond (.tmp 7) (
                  .skip) (
                  .exit 0))) (
              .seq (
                .block 1 (
                  .seq (
                    .region [
                      ⟨some 10, .mov (.tmp 0), none⟩,
                      ⟨some 11, .mov (.tmp 3), none⟩,
                      ⟨some 12, .idxS (.tmp 10) (.tmp 11), none⟩,
                      ⟨some 13, .bin .geq .no (.tmp 12) (.const (.b8 65)), none⟩,
                      ⟨some 14, .mov (.tmp 13), none⟩,
                      ⟨some 15, .mov (.tmp 0), some (14, true)⟩,
                      ⟨some 16, .mov (.tmp 3), some (14, true)⟩,
                      ⟨some 17, .idxS (.tmp 15) (.tmp 16), some (14, true)⟩,
                      ⟨some 18, .bin .leq .no (.tmp 17) (.const (.b8 90)), some (14, true)⟩,
                      ⟨some 19, .pick (.tmp 14) (.tmp 18) (.const (.bool false)), none⟩,
                      ⟨some 20, .mov (.tmp 19), none⟩,
                      ⟨some 21, .mov (.tmp 0), some (20, false)⟩,
                      ⟨some 22, .mov (.tmp 3), some (20, false)⟩,
                      ⟨some 23, .idxS (.tmp 21) (.tmp 22), some (20, false)⟩,
                      ⟨some 24, .bin .geq .no (.tmp 23) (.const (.b8 48)), some (20, false)⟩,
                      ⟨some 25, .mov (.tmp 24), some (20, false)⟩,
                      ⟨some 26, .mov (.tmp 0), some (25, true)⟩,
                      ⟨some 27, .mov (.tmp 3), some (25, true)⟩,
                      ⟨some 28, .idxS (.tmp 26) (.tmp 27), some (25, true)⟩,
                      ⟨some 29, .bin .leq .no (.tmp 28) (.const (.b8 57)), some (25, true)⟩,
                      ⟨some 30, .pick (.tmp 25) (.tmp 29) (.const (.bool false)), some (20, false)⟩,
                      ⟨some 31, .pick (.tmp 20) (.const (.bool true)) (.tmp 30), none⟩,
                      ⟨some 32, .mov (.tmp 31), none⟩,
                      ⟨some 33, .mov (.tmp 0), some (32, false)⟩,
                      ⟨some 34, .mov (.tmp 3), some (32, false)⟩,
                      ⟨some 35, .idxS (.tmp 33) (.tmp 34), some (32, false)⟩,
                      ⟨some 36, .bin .eql .no (.tmp 35) (.const (.b8 45)), some (32, false)⟩,
                      ⟨some 37, .pick (.tmp 32) (.const (.bool true)) (.tmp 36), none⟩,
                      ⟨some 38, .un .not (.tmp 37), none⟩]) (
                    .cond (.tmp 38) (
                      .seq (
                        .region [
                          ⟨some 2, .mov (.const (.bool false)), none⟩]) (
                        .ret)) (
                      .skip)))) (
                .region [
                  ⟨some 8, .mov (.tmp 3), none⟩,
                  ⟨some 9, .bin .add .no (.tmp 8) (.const (.int .i64 1)), none⟩,
                  ⟨some 3, .mov (.tmp 9), none⟩])))))) (
      .seq (
        .region [
          ⟨some 39, .mov (.tmp 0), none⟩,
          ⟨some 40, .len true (.tmp 39), none⟩,
          ⟨some 41, .bin .geq .no (.tmp 40) (.const (.int .i64 1)), none⟩,
          ⟨some 42, .mov (.tmp 41), none⟩,
          ⟨some 43, .mov (.tmp 0), some (42, true)⟩,
          ⟨some 44, .len true (.tmp 43), some (42, true)⟩,
          ⟨some 45, .bin .leq .no (.tmp 44) (.const (.int .i64 64)), some (42, true)⟩,
          ⟨some 46, .pick (.tmp 42) (.tmp 45) (.const (.bool false)), none⟩,
          ⟨some 2, .mov (.tmp 46), none⟩]) (
        .ret)))) }

/-- posthorn/posthornref10.Text -/
def F_posthornref10_Text : ACFn := { nt := 29, results := [.tmp 2], body := (
  .seq (
    .region [
      ⟨some 2, .mov (.const (.bool false)), none⟩]) (
    .seq (
      .seq (
        .region [
          ⟨some 3, .mov (.const (.int .i64 0)), none⟩]) (
        .block 0 (
          .loop (
            .seq (
              .seq (
                .region [
                  ⟨some 4, .mov (.tmp 3), none⟩,
                  ⟨some 5, .mov (.tmp 0), none⟩,
                  ⟨some 6, .len true (.tmp 5), none⟩,
                  ⟨some 7, .bin .lss .no (.tmp 4) (.tmp 6), none⟩]) (
                .cond (.tmp 7) (
                  .skip) (
                  .exit 0))) (
              .seq (
                .block 1 (
                  .seq (
                    .region [
                      ⟨some 10, .mov (.tmp 0), none⟩,
                      ⟨some 11, .mov (.tmp 3), none⟩,
                      ⟨some 12, .idxS (.tmp 10) (.tmp 11), none⟩,
                      ⟨some 13, .bin .eql .no (.tmp 12) (.const (.b8 127)), none⟩,
                      ⟨some 14, .mov (.tmp 13), none⟩,
                      ⟨some 15, .mov (.tmp 0), some (14, false)⟩,
                      ⟨some 16, .mov (.tmp 3), some (14, false)⟩,
                      ⟨some 17, .idxS (.tmp 15) (.tmp 16), some (14, false)⟩,
                      ⟨some 18, .bin .lss .no (.tmp 17) (.const (.b8 32)), some (14, false)⟩,
                      ⟨some 19, .mov (.tmp 18), some (14, false)⟩,
                      ⟨some 20, .mov (.tmp 0), some (19, true)⟩,
                      ⟨some 21, .mov (.tmp 3), some (19, true)⟩,
                      ⟨some 22, .idxS (.tmp 20) (.tmp 21), some (19, true)⟩,
                      ⟨some 23, .bin .neq .no (.tmp 22) (.const (.b8 9)), some (19, true)⟩,
                      ⟨some 24, .pick (.tmp 19) (.tmp 23) (.const (.bool false)), some (14, false)⟩,
                      ⟨some 25, .pick (.tmp 14) (.const (.bool true)) (.tmp 24), none⟩]) (
                    .cond (.tmp 25) (
                      .seq (
                        .region [
                          ⟨some 2, .mov (.const (.bool false)), none⟩]) (
                        .ret)) (
                      .skip)))) (
                .region [
                  ⟨some 8, .mov (.tmp 3), none⟩,
                  ⟨some 9, .bin .add .no (.tmp 8) (.const (.int .i64 1)), none⟩,
                  ⟨some 3, .mov (.tmp 9), none⟩])))))) (
      .seq (
        .region [
          ⟨some 26, .mov (.tmp 0), none⟩,
          ⟨some 27, .cS2B false (.tmp 26), none⟩,
          ⟨some 28, .call (.fn 74) [(.tmp 27)], none⟩,
          ⟨some 2, .mov (.tmp 28), none⟩]) (
        .ret)))) }

/-- posthorn/utf.Points -/
def F_utf_Points : ACFn := { nt := 35, results := [.tmp 2, .cell 3 true 2], body := (
  .seq (
    .region [
      ⟨some 2, .mov (.const (.nils)), none⟩,
      ⟨some 3, .alloc [.int .i64 0, .int .i64 0], none⟩]) (
    .seq (
      .region [
        ⟨some 4, .mov (.const (.nils)), none⟩]) (
      .seq (
        .seq (
          .region [
            ⟨some 5, .mov (.const (.int .i64 0)), none⟩]) (
          .block 0 (
            .loop (
              .seq (
                .seq (
                  .region [
                    ⟨some 9, .mov (.tmp 5), none⟩,
                    ⟨some 10, .mov (.tmp 0), none⟩,
                    ⟨some 11, .len false (.tmp 10), none⟩,
                    ⟨some 12, .bin .lss .no (.tmp 9) (.tmp 11), none⟩]) (
                  .cond (.tmp 12) (
                    .skip) (
                    .exit 0))) (
                .block 1 (
                  .seq (
                    .region [
                      ⟨some 14, .mov (.tmp 0), none⟩,
                      ⟨some 15, .mov (.tmp 5), none⟩,
                      ⟨some 16, .slc 1 (.tmp 14) (some (.tmp 15)) none none, none⟩,
                      ⟨some 17, .call (.fn 77) [(.tmp 16)], none⟩,
                      ⟨some 13, .mov (.tmp 17), none⟩,
                      ⟨some 18, .ext 0 (.tmp 13), none⟩,
                      ⟨some 19, .ext 1 (.tmp 13), none⟩,
                      ⟨some 20, .ext 2 (.tmp 13), none⟩,
                      ⟨some 6, .mov (.tmp 18), none⟩,
                      ⟨some 7, .mov (.tmp 19), none⟩,
                      ⟨some 8, .mov (.tmp 20), none⟩]) (
                    .seq (
                      .seq (
                        .region [
                          ⟨some 21, .mov (.tmp 8), none⟩,
                          ⟨some 22, .bin .neq .no (.tmp 21) (.const (.int .i64 0)), none⟩]) (
                        .cond (.tmp 22) (
                          .seq (
                            .region [
                              ⟨some 23, .mov (.tmp 5), none⟩,
                              ⟨some 24, .mov (.tmp 8), none⟩,
                              ⟨some 25, .build [.int .i64 0, .int .i64 0] [(0, 1, (.tmp 23)), (1, 1, (.tmp 24))], none⟩,
                              ⟨some 2, .mov (.const (.nils)), none⟩,
                              ⟨none, .store 2 (.tmp 3) (.tmp 25), none⟩]) (
                            .ret)) (
                          .skip))) (
                      .seq (
                        .region [
                          ⟨some 26, .mov (.tmp 4), none⟩,
                          ⟨some 27, .mov (.tmp 6), none⟩,
                          ⟨some 28, .lit 1 (.int .i32 0) 1 [(0, (.tmp 27))], none⟩,
                          ⟨some 29, .app false 1 (.tmp 26) (.tmp 28), none⟩,
                          ⟨some 4, .mov (.tmp 29), none⟩]) (
                        .region [
                          ⟨some 30, .mov (.tmp 5), none⟩,
                          ⟨some 31, .mov (.tmp 7), none⟩,
                          ⟨some 32, .bin .add .no (.tmp 30) (.tmp 31), none⟩,
                          ⟨some 5, .mov (.tmp 32), none⟩]))))))))) (
        .seq (
          .region [
            ⟨some 33, .mov (.tmp 4), none⟩,
            ⟨some 34, .build [.int .i64 0, .int .i64 0] [], none⟩,
            ⟨some 2, .mov (.tmp 33), none⟩,
            ⟨none, .store 2 (.tmp 3) (.tmp 34), none⟩]) (
          .ret))))) }

/-- posthorn/sheet.cut -/
def F_sheet_cut : ACFn := { nt := 31, results := [.tmp 4, .tmp 5, .tmp 6], body := (
  .seq (
    .region [
      ⟨some 4, .mov (.const (.str [])), none⟩,
      ⟨some 5, .mov (.const (.b8 0)), none⟩,
      ⟨some 6, .mov (.const (.str [])), none⟩]) (
    .seq (
      .seq (
        .region [
          ⟨some 8, .mov (.tmp 0), none⟩,
          ⟨some 9, .len true (.tmp 8), none⟩,
          ⟨some 10, .mov (.const (.int .i64 0)), none⟩]) (
        .block 0 (
          .loop (
            .seq (
              .region [
                ⟨some 11, .bin .lss .no (.tmp 10) (.tmp 9), none⟩]) (
              .seq (
                .cond (.tmp 11) (
                  .skip) (
                  .exit 0)) (
                .seq (
                  .block 1 (
                    .seq (
                      .region [
                        ⟨some 12, .mov (.tmp 10), none⟩,
                        ⟨some 7, .mov (.tmp 12), none⟩]) (
                      .seq (
                        .region [
                          ⟨some 13, .mov (.tmp 1), none⟩,
                          ⟨some 14, .mov (.tmp 0), none⟩,
                          ⟨some 15, .mov (.tmp 7), none⟩,
                          ⟨some 16, .idxS (.tmp 14) (.tmp 15), none⟩,
                          ⟨some 17, .call (.fn 78) [(.tmp 13), (.tmp 16)], none⟩,
                          ⟨some 18, .bin .geq .no (.tmp 17) (.const (.int .i64 0)), none⟩]) (
                        .cond (.tmp 18) (
                          .seq (
                            .region [
                              ⟨some 19, .mov (.tmp 0), none⟩,
                              ⟨some 20, .mov (.tmp 7), none⟩,
                              ⟨some 21, .slc 0 (.tmp 19) none (some (.tmp 20)) none, none⟩,
                              ⟨some 22, .mov (.tmp 0), none⟩,
                              ⟨some 23, .mov (.tmp 7), none⟩,
                              ⟨some 24, .idxS (.tmp 22) (.tmp 23), none⟩,
                              ⟨some 25, .mov (.tmp 0), none⟩,
                              ⟨some 26, .mov (.tmp 7), none⟩,
                              ⟨some 27, .bin .add .no (.tmp 26) (.const (.int .i64 1)), none⟩,
                              ⟨some 28, .slc 0 (.tmp 25) (some (.tmp 27)) none none, none⟩,
                              ⟨some 4, .mov (.tmp 21), none⟩,
                              ⟨some 5, .mov (.tmp 24), none⟩,
                              ⟨some 6, .mov (.tmp 28), none⟩]) (
                            .ret)) (
                          .skip))))) (
                  .region [
                    ⟨some 29, .bin .add .no (.tmp 10) (.const (.int .i64 1)), none⟩,
                    ⟨some 10, .mov (.tmp 29), none⟩]))))))) (
      .seq (
        .region [
          ⟨some 30, .mov (.tmp 0), none⟩,
          ⟨some 4, .mov (.tmp 30), none⟩,
          ⟨some 5, .mov (.const (.b8 0)), none⟩,
          ⟨some 6, .mov (.const (.str [])), none⟩]) (
        .ret)))) }

/-- posthorn/sheet.upper -/
def F_sheet_upper : ACFn := { nt := 29, results := [.tmp 2], body := (
  .seq (
    .region [
      ⟨some 2, .mov (.const (.str [])), none⟩]) (
    .seq (
      .region [
        ⟨some 6, .mov (.tmp 0), none⟩,
        ⟨some 7, .cS2B true (.tmp 6), none⟩,
        ⟨some 3, .mov (.tmp 7), none⟩]) (
      .seq (
        .seq (
          .region [
            ⟨some 8, .mov (.tmp 3), none⟩,
            ⟨some 9, .len false (.tmp 8), none⟩,
            ⟨some 10, .mov (.const (.int .i64 0)), none⟩]) (
          .block 0 (
            .loop (
              .seq (
                .region [
                  ⟨some 11, .bin .lss .no (.tmp 10) (.tmp 9), none⟩]) (
                .seq (
                  .cond (.tmp 11) (
                    .skip) (
                    .exit 0)) (
                  .seq (
                    .block 1 (
                      .seq (
                        .region [
                          ⟨some 12, .mov (.tmp 10), none⟩,
                          ⟨some 13, .iaddr 1 (.tmp 8) (.tmp 10), none⟩,
                          ⟨some 14, .load false 1 (.tmp 13), none⟩,
                          ⟨some 4, .mov (.tmp 12), none⟩,
                          ⟨some 5, .mov (.tmp 14), none⟩]) (
                        .seq (
                          .region [
                            ⟨some 15, .mov (.tmp 5), none⟩,
                            ⟨some 16, .bin .geq .no (.tmp 15) (.const (.b8 97)), none⟩,
                            ⟨some 17, .mov (.tmp 16), none⟩,
                            ⟨some 18, .mov (.tmp 5), some (17, true)⟩,
                            ⟨some 19, .bin .leq .no (.tmp 18) (.const (.b8 122)), some (17, true)⟩,
                            ⟨some 20, .pick (.tmp 17) (.tmp 19) (.const (.bool false)), none⟩]) (
                          .cond (.tmp 20) (
                            .region [
                              ⟨some 21, .mov (.tmp 3), none⟩,
                              ⟨some 22, .mov (.tmp 4), none⟩,
                              ⟨some 23, .mov (.tmp 5), none⟩,
                              ⟨some 24, .bin .sub .no (.tmp 23) (.const (.b8 32)), none⟩,
                              ⟨some 25, .iaddr 1 (.tmp 21) (.tmp 22), none⟩,
                              ⟨none, .store 1 (.tmp 25) (.tmp 24), none⟩]) (
                            .skip))))) (
                    .region [
                      ⟨some 26, .bin .add .no (.tmp 10) (.const (.int .i64 1)), none⟩,
                      ⟨some 10, .mov (.tmp 26), none⟩]))))))) (
        .seq (
          .region [
            ⟨some 27, .mov (.tmp 3), none⟩,
            ⟨some 28, .cB2S true (.tmp 27), none⟩,
            ⟨some 2, .mov (.tmp 28), none⟩]) (
          .ret))))) }

/-- strings.HasPrefix -/
def F_strings_HasPrefix : ACFn := { nt := 8, results := [.tmp 4], body := (
  .seq (
    .region [
      ⟨some 4, .mov (.const (.bool false)), none⟩]) (
    .seq (
      .region [
        ⟨some 5, .mov (.tmp 0), none⟩,
        ⟨some 6, .mov (.tmp 1), none⟩,
        ⟨some 7, .call (.fn 79) [(.tmp 5), (.tmp 6)], none⟩,
        ⟨some 4, .mov (.tmp 7), none⟩]) (
      .ret))) }

/-- posthorn/posthornref02.Valid -/
def F_posthornref02_Valid : ACFn := { nt := 13, results := [.tmp 2], body := (
  .seq (
    .region [
      ⟨some 2, .mov (.const (.bool false)), none⟩]) (
    .seq (
      .region [
        ⟨some 6, .mov (.tmp 0), none⟩,
        ⟨some 7, .call (.fn 80) [(.tmp 6)], none⟩,
        ⟨some 5, .mov (.tmp 7), none⟩,
        ⟨some 8, .ext 0 (.tmp 5), none⟩,
        ⟨some 9, .ext 1 (.tmp 5), none⟩,
        ⟨some 4, .alloc [.int .i64 0, .int .i64 0], none⟩,
        ⟨some 3, .mov (.tmp 8), none⟩,
        ⟨none, .store 2 (.tmp 4) (.tmp 9), none⟩]) (
      .seq (
        .region [
          ⟨some 10, .faddr 1 (.tmp 4), none⟩,
          ⟨some 11, .load false 1 (.tmp 10), none⟩,
          ⟨some 12, .bin .eql .no (.tmp 11) (.const (.int .i64 0)), none⟩,
          ⟨some 2, .mov (.tmp 12), none⟩]) (
        .ret)))) }

/-- posthorn/posthornref02.Next -/
def F_posthornref02_Next : ACFn := { nt := 83, results := [.tmp 2, .tmp 3, .tmp 4], body := (
  .seq (
    .region [
      ⟨some 2, .mov (.const (.int .i32 0)), none⟩,
      ⟨some 3, .mov (.const (.int .i64 0)), none⟩,
      ⟨some 4, .mov (.const (.int .i64 0)), none⟩]) (
    .seq (
      .seq (
        .region [
          ⟨some 10, .mov (.tmp 0), none⟩,
          ⟨some 11, .len false (.tmp 10), none⟩,
          ⟨some 12, .bin .eql .no (.tmp 11) (.const (.int .i64 0)), none⟩]) (
        .cond (.tmp 12) (
          .seq (
            .region [
              ⟨some 2, .mov (.const (.int .i32 0)), none⟩,
              ⟨some 3, .mov (.const (.int .i64 0)), none⟩,
              ⟨some 4, .mov (.const (.int .i64 42)), none⟩]) (
            .ret)) (
          .skip))) (
      .seq (
        .seq (
          .region [
            ⟨some 13, .mov (.tmp 0), none⟩,
            ⟨some 14, .iaddr 1 (.tmp 13) (.const (.int .i64 0)), none⟩,
            ⟨some 15, .load false 1 (.tmp 14), none⟩,
            ⟨some 16, .bin .lss .no (.tmp 15) (.const (.b8 128)), none⟩]) (
          .cond (.tmp 16) (
            .seq (
              .region [
                ⟨some 17, .mov (.tmp 0), none⟩,
                ⟨some 18, .iaddr 1 (.tmp 17) (.const (.int .i64 0)), none⟩,
                ⟨some 19, .load false 1 (.tmp 18), none⟩,
                ⟨some 20, .cInt .i32 (.tmp 19), none⟩,
                ⟨some 2, .mov (.tmp 20), none⟩,
                ⟨some 3, .mov (.const (.int .i64 1)), none⟩,
                ⟨some 4, .mov (.const (.int .i64 0)), none⟩]) (
              .ret)) (
            .skip))) (
        .seq (
          .seq (
            .region [
              ⟨some 5, .mov (.const (.int .i64 2)), none⟩]) (
            .block 0 (
              .loop (
                .seq (
                  .seq (
                    .region [
                      ⟨some 21, .mov (.tmp 5), none⟩,
                      ⟨some 22, .bin .leq .no (.tmp 21) (.const (.int .i64 4)), none⟩,
                      ⟨some 23, .mov (.tmp 22), none⟩,
                      ⟨some 24, .mov (.tmp 5), some (23, true)⟩,
                      ⟨some 25, .mov (.tmp 0), some (23, true)⟩,
                      ⟨some 26, .len false (.tmp 25), some (23, true)⟩,
                      ⟨some 27, .bin .leq .no (.tmp 24) (.tmp 26), some (23, true)⟩,
                      ⟨some 28, .pick (.tmp 23) (.tmp 27) (.const (.bool false)), none⟩]) (
                    .cond (.tmp 28) (
                      .skip) (
                      .exit 0))) (
                  .seq (
                    .block 1 (
                      .seq (
                        .region [
                          ⟨some 31, .mov (.tmp 0), none⟩,
                          ⟨some 32, .iaddr 1 (.tmp 31) (.const (.int .i64 0)), none⟩,
                          ⟨some 33, .load false 1 (.tmp 32), none⟩,
                          ⟨some 34, .cInt .i32 (.tmp 33), none⟩,
                          ⟨some 35, .bin .rem .no (.tmp 34) (.const (.int .i32 32)), none⟩,
                          ⟨some 6, .mov (.tmp 35), none⟩]) (
                        .seq (
                          .seq (
                            .region [
                              ⟨some 36, .mov (.tmp 5), none⟩,
                              ⟨some 37, .bin .eql .no (.tmp 36) (.const (.int .i64 3)), none⟩]) (
                            .cond (.tmp 37) (
                              .region [
                                ⟨some 38, .mov (.tmp 0), none⟩,
                                ⟨some 39, .iaddr 1 (.tmp 38) (.const (.int .i64 0)), none⟩,
                                ⟨some 40, .load false 1 (.tmp 39), none⟩,
                                ⟨some 41, .cInt .i32 (.tmp 40), none⟩,
                                ⟨some 42, .bin .rem .no (.tmp 41) (.const (.int .i32 16)), none⟩,
                                ⟨some 6, .mov (.tmp 42), none⟩]) (
                              .skip))) (
                          .seq (
                            .seq (
                              .region [
                                ⟨some 43, .mov (.tmp 5), none⟩,
                                ⟨some 44, .bin .eql .no (.tmp 43) (.const (.int .i64 4)), none⟩]) (
                              .cond (.tmp 44) (
                                .region [
                                  ⟨some 45, .mov (.tmp 0), none⟩,
                                  ⟨some 46, .iaddr 1 (.tmp 45) (.const (.int .i64 0)), none⟩,
                                  ⟨some 47, .load false 1 (.tmp 46), none⟩,
                                  ⟨some 48, .cInt .i32 (.tmp 47), none⟩,
                                  ⟨some 49, .bin .rem .no (.tmp 48) (.const (.int .i32 8)), none⟩,
                                  ⟨some 6, .mov (.tmp 49), none⟩]) (
                                .skip))) (
                            .seq (
                              .seq (
                                .region [
                                  ⟨some 7, .mov (.const (.int .i64 1)), none⟩]) (
                                .block 2 (
                                  .loop (
                                    .seq (
                                      .seq (
                                        .region [
                                          ⟨some 50, .mov (.tmp 7), none⟩,
                                          ⟨some 51, .mov (.tmp 5), none⟩,
                                          ⟨some 52, .bin .lss .no (.tmp 50) (.tmp 51), none⟩]) (
                                        .cond (.tmp 52) (
                                          .skip) (
                                          .exit 2))) (
                                      .seq (
                                        .block 3 (
                                          .region [
                                            ⟨some 55, .mov (.tmp 6), none⟩,
                                            ⟨some 56, .bin .mul .no (.const (.int .i32 64)) (.tmp 55), none⟩,
                                            ⟨some 57, .mov (.tmp 0), none⟩,
                                            ⟨some 58, .mov (.tmp 7), none⟩,
                                            ⟨some 59, .iaddr 1 (.tmp 57) (.tmp 58), none⟩,
                                            ⟨some 60, .load false 1 (.tmp 59), none⟩,
                                            ⟨some 61, .cInt .i32 (.tmp 60), none⟩,
                                            ⟨some 62, .bin .rem .no (.tmp 61) (.const (.int .i32 64)), none⟩,
                                            ⟨some 63, .bin .add .no (.tmp 56) (.tmp 62), none⟩,
                                            ⟨some 6, .mov (.tmp 63), none⟩])) (
                                        .region [
                                          ⟨some 53, .mov (.tmp 7), none⟩,
                                          ⟨some 54, .bin .add .no (.tmp 53) (.const (.int .i64 1)), none⟩,
                                          ⟨some 7, .mov (.tmp 54), none⟩])))))) (
                              .seq (
                                .region [
                                  ⟨some 65, .mov (.tmp 6), none⟩,
                                  ⟨some 66, .call (.fn 81) [(.tmp 65)], none⟩,
                                  ⟨some 64, .mov (.tmp 66), none⟩,
                                  ⟨some 67, .ext 0 (.tmp 64), none⟩,
                                  ⟨some 68, .ext 1 (.tmp 64), none⟩,
                                  ⟨some 8, .mov (.tmp 67), none⟩,
                                  ⟨some 9, .mov (.tmp 68), none⟩]) (
                                .seq (
                                  .region [
                                    ⟨some 69, .mov (.tmp 9), none⟩,
                                    ⟨some 70, .bin .eql .no (.tmp 69) (.const (.int .i64 0)), none⟩,
                                    ⟨some 71, .mov (.tmp 70), none⟩,
                                    ⟨some 72, .mov (.tmp 8), some (71, true)⟩,
                                    ⟨some 73, .cB2S false (.tmp 72), some (71, true)⟩,
                                    ⟨some 74, .mov (.tmp 0), some (71, true)⟩,
                                    ⟨some 75, .mov (.tmp 5), some (71, true)⟩,
                                    ⟨some 76, .slc 1 (.tmp 74) none (some (.tmp 75)) none, some (71, true)⟩,
                                    ⟨some 77, .cB2S false (.tmp 76), some (71, true)⟩,
                                    ⟨some 78, .bin .eql .no (.tmp 73) (.tmp 77), some (71, true)⟩,
                                    ⟨some 79, .pick (.tmp 71) (.tmp 78) (.const (.bool false)), none⟩]) (
                                  .cond (.tmp 79) (
                                    .seq (
                                      .region [
                                        ⟨some 80, .mov (.tmp 6), none⟩,
                                        ⟨some 81, .mov (.tmp 5), none⟩,
                                        ⟨some 82, .mov (.tmp 9), none⟩,
                                        ⟨some 2, .mov (.tmp 80), none⟩,
                                        ⟨some 3, .mov (.tmp 81), none⟩,
                                        ⟨some 4, .mov (.tmp 82), none⟩]) (
                                      .ret)) (
                                    .skip))))))))) (
                    .region [
                      ⟨some 29, .mov (.tmp 5), none⟩,
                      ⟨some 30, .bin .add .no (.tmp 29) (.const (.int .i64 1)), none⟩,
                      ⟨some 5, .mov (.tmp 30), none⟩])))))) (
          .seq (
            .region [
              ⟨some 2, .mov (.const (.int .i32 0)), none⟩,
              ⟨some 3, .mov (.const (.int .i64 0)), none⟩,
              ⟨some 4, .mov (.const (.int .i64 20)), none⟩]) (
            .ret)))))) }

/-- strings.Index -/
def F_strings_Index : ACFn := { nt := 8, results := [.tmp 4], body := (
  .seq (
    .region [
      ⟨some 4, .mov (.const (.int .i64 0)), none⟩]) (
    .seq (
      .region [
        ⟨some 5, .mov (.tmp 0), none⟩,
        ⟨some 6, .mov (.tmp 1), none⟩,
        ⟨some 7, .call (.fn 82) [(.tmp 5), (.tmp 6)], none⟩,
        ⟨some 4, .mov (.tmp 7), none⟩]) (
      .ret))) }

/-- posthorn/utf.Next -/
def F_utf_Next : ACFn := { nt := 97, results := [.tmp 2, .tmp 3, .tmp 4], body := (
  .seq (
    .region [
      ⟨some 2, .mov (.const (.int .i32 0)), none⟩,
      ⟨some 3, .mov (.const (.int .i64 0)), none⟩,
      ⟨some 4, .mov (.const (.int .i64 0)), none⟩]) (
    .scope (
      .seq (
        .region [
          ⟨some 5, .mov (.const (.int .i32 0)), none⟩]) (
        .seq (
          .region [
            ⟨some 6, .mov (.const (.int .i64 0)), none⟩]) (
          .seq (
            .seq (
              .region [
                ⟨some 10, .mov (.tmp 0), none⟩,
                ⟨some 11, .len false (.tmp 10), none⟩,
                ⟨some 12, .bin .eql .no (.tmp 11) (.const (.int .i64 0)), none⟩]) (
              .cond (.tmp 12) (
                .seq (
                  .region [
                    ⟨some 2, .mov (.const (.int .i32 0)), none⟩,
                    ⟨some 3, .mov (.const (.int .i64 0)), none⟩,
                    ⟨some 4, .mov (.const (.int .i64 42)), none⟩]) (
                  .ret)) (
                .skip))) (
            .seq (
              .seq (
                .region [
                  ⟨some 13, .mov (.tmp 0), none⟩,
                  ⟨some 14, .iaddr 1 (.tmp 13) (.const (.int .i64 0)), none⟩,
                  ⟨some 15, .load false 1 (.tmp 14), none⟩,
                  ⟨some 7, .mov (.tmp 15), none⟩]) (
                .block 0 (
                  .seq (
                    .region [
                      ⟨some 17, .mov (.tmp 7), none⟩,
                      ⟨some 18, .bin .lss .no (.tmp 17) (.const (.b8 128)), none⟩,
                      ⟨some 16, .mov (.tmp 18), none⟩]) (
                    .cond (.tmp 16) (
                      .seq (
                        .region [
                          ⟨some 19, .mov (.tmp 7), none⟩,
                          ⟨some 20, .cInt .i32 (.tmp 19), none⟩,
                          ⟨some 2, .mov (.tmp 20), none⟩,
                          ⟨some 3, .mov (.const (.int .i64 1)), none⟩,
                          ⟨some 4, .mov (.const (.int .i64 0)), none⟩]) (
                        .ret)) (
                      .seq (
                        .region [
                          ⟨some 22, .mov (.tmp 7), none⟩,
                          ⟨some 23, .bin .shr .no (.tmp 22) (.const (.int .u64 5)), none⟩,
                          ⟨some 24, .bin .eql .no (.tmp 23) (.const (.b8 6)), none⟩,
                          ⟨some 21, .mov (.tmp 24), none⟩]) (
                        .cond (.tmp 21) (
                          .region [
                            ⟨some 25, .mov (.tmp 7), none⟩,
                            ⟨some 26, .bin .and .no (.tmp 25) (.const (.b8 31)), none⟩,
                            ⟨some 27, .cInt .i32 (.tmp 26), none⟩,
                            ⟨some 5, .mov (.tmp 27), none⟩,
                            ⟨some 6, .mov (.const (.int .i64 2)), none⟩]) (
                          .seq (
                            .region [
                              ⟨some 29, .mov (.tmp 7), none⟩,
                              ⟨some 30, .bin .shr .no (.tmp 29) (.const (.int .u64 4)), none⟩,
                              ⟨some 31, .bin .eql .no (.tmp 30) (.const (.b8 14)), none⟩,
                              ⟨some 28, .mov (.tmp 31), none⟩]) (
                            .cond (.tmp 28) (
                              .region [
                                ⟨some 32, .mov (.tmp 7), none⟩,
                                ⟨some 33, .bin .and .no (.tmp 32) (.const (.b8 15)), none⟩,
                                ⟨some 34, .cInt .i32 (.tmp 33), none⟩,
                                ⟨some 5, .mov (.tmp 34), none⟩,
                                ⟨some 6, .mov (.const (.int .i64 3)), none⟩]) (
                              .seq (
                                .region [
                                  ⟨some 36, .mov (.tmp 7), none⟩,
                                  ⟨some 37, .bin .shr .no (.tmp 36) (.const (.int .u64 3)), none⟩,
                                  ⟨some 38, .bin .eql .no (.tmp 37) (.const (.b8 30)), none⟩,
                                  ⟨some 35, .mov (.tmp 38), none⟩]) (
                                .cond (.tmp 35) (
                                  .region [
                                    ⟨some 39, .mov (.tmp 7), none⟩,
                                    ⟨some 40, .bin .and .no (.tmp 39) (.const (.b8 7)), none⟩,
                                    ⟨some 41, .cInt .i32 (.tmp 40), none⟩,
                                    ⟨some 5, .mov (.tmp 41), none⟩,
                                    ⟨some 6, .mov (.const (.int .i64 4)), none⟩]) (
                                  .skip))))))))))) (
              .seq (
                .seq (
                  .region [
                    ⟨some 42, .mov (.tmp 6), none⟩,
                    ⟨some 43, .bin .eql .no (.tmp 42) (.const (.int .i64 0)), none⟩,
                    ⟨some 44, .mov (.tmp 43), none⟩,
                    ⟨some 45, .mov (.tmp 0), some (44, false)⟩,
                    ⟨some 46, .len false (.tmp 45), some (44, false)⟩,
                    ⟨some 47, .mov (.tmp 6), some (44, false)⟩,
                    ⟨some 48, .bin .lss .no (.tmp 46) (.tmp 47), some (44, false)⟩,
                    ⟨some 49, .pick (.tmp 44) (.const (.bool true)) (.tmp 48), none⟩]) (
                  .cond (.tmp 49) (
                    .goto 0) (
                    .skip))) (
                .seq (
                  .seq (
                    .region [
                      ⟨some 50, .mov (.tmp 0), none⟩,
                      ⟨some 51, .mov (.tmp 6), none⟩,
                      ⟨some 52, .slc 1 (.tmp 50) (some (.const (.int .i64 1))) (some (.tmp 51)) none, none⟩,
                      ⟨some 53, .len false (.tmp 52), none⟩,
                      ⟨some 54, .mov (.const (.int .i64 0)), none⟩]) (
                    .block 1 (
                      .loop (
                        .seq (
                          .region [
                            ⟨some 55, .bin .lss .no (.tmp 54) (.tmp 53), none⟩]) (
                          .seq (
                            .cond (.tmp 55) (
                              .skip) (
                              .exit 1)) (
                            .seq (
                              .block 2 (
                                .seq (
                                  .region [
                                    ⟨some 56, .iaddr 1 (.tmp 52) (.tmp 54), none⟩,
                                    ⟨some 57, .load false 1 (.tmp 56), none⟩,
                                    ⟨some 9, .mov (.tmp 57), none⟩]) (
                                  .seq (
                                    .seq (
                                      .region [
                                        ⟨some 58, .mov (.tmp 9), none⟩,
                                        ⟨some 59, .bin .shr .no (.tmp 58) (.const (.int .u64 6)), none⟩,
                                        ⟨some 60, .bin .neq .no (.tmp 59) (.const (.b8 2)), none⟩]) (
                                      .cond (.tmp 60) (
                                        .goto 0) (
                                        .skip))) (
                                    .region [
                                      ⟨some 61, .mov (.tmp 5), none⟩,
                                      ⟨some 62, .bin .shl .no (.tmp 61) (.const (.int .u64 6)), none⟩,
                                      ⟨some 63, .mov (.tmp 9), none⟩,
                                      ⟨some 64, .bin .and .no (.tmp 63) (.const (.b8 63)), none⟩,
                                      ⟨some 65, .cInt .i32 (.tmp 64), none⟩,
                                      ⟨some 66, .bin .or .no (.tmp 62) (.tmp 65), none⟩,
                                      ⟨some 5, .mov (.tmp 66), none⟩])))) (
                              .region [
                                ⟨some 67, .bin .add .no (.tmp 54) (.const (.int .i64 1)), none⟩,
                                ⟨some 54, .mov (.tmp 67), none⟩]))))))) (
                  .seq (
                    .seq (
                      .region [
                        ⟨some 68, .mov (.tmp 5), none⟩,
                        ⟨some 69, .call (.fn 83) [(.tmp 68)], none⟩,
                        ⟨some 70, .un .not (.tmp 69), none⟩,
                        ⟨some 71, .mov (.tmp 70), none⟩,
                        ⟨some 72, .mov (.tmp 6), some (71, false)⟩,
                        ⟨some 73, .bin .eql .no (.tmp 72) (.const (.int .i64 2)), some (71, false)⟩,
                        ⟨some 74, .mov (.tmp 73), some (71, false)⟩,
                        ⟨some 75, .mov (.tmp 5), some (74, true)⟩,
                        ⟨some 76, .bin .lss .no (.tmp 75) (.const (.int .i32 128)), some (74, true)⟩,
                        ⟨some 77, .pick (.tmp 74) (.tmp 76) (.const (.bool false)), some (71, false)⟩,
                        ⟨some 78, .pick (.tmp 71) (.const (.bool true)) (.tmp 77), none⟩,
                        ⟨some 79, .mov (.tmp 78), none⟩,
                        ⟨some 80, .mov (.tmp 6), some (79, false)⟩,
                        ⟨some 81, .bin .eql .no (.tmp 80) (.const (.int .i64 3)), some (79, false)⟩,
                        ⟨some 82, .mov (.tmp 81), some (79, false)⟩,
                        ⟨some 83, .mov (.tmp 5), some (82, true)⟩,
                        ⟨some 84, .bin .lss .no (.tmp 83) (.const (.int .i32 2048)), some (82, true)⟩,
                        ⟨some 85, .pick (.tmp 82) (.tmp 84) (.const (.bool false)), some (79, false)⟩,
                        ⟨some 86, .pick (.tmp 79) (.const (.bool true)) (.tmp 85), none⟩,
                        ⟨some 87, .mov (.tmp 86), none⟩,
                        ⟨some 88, .mov (.tmp 6), some (87, false)⟩,
                        ⟨some 89, .bin .eql .no (.tmp 88) (.const (.int .i64 4)), some (87, false)⟩,
                        ⟨some 90, .mov (.tmp 89), some (87, false)⟩,
                        ⟨some 91, .mov (.tmp 5), some (90, true)⟩,
                        ⟨some 92, .bin .lss .no (.tmp 91) (.const (.int .i32 65536)), some (90, true)⟩,
                        ⟨some 93, .pick (.tmp 90) (.tmp 92) (.const (.bool false)), some (87, false)⟩,
                        ⟨some 94, .pick (.tmp 87) (.const (.bool true)) (.tmp 93), none⟩]) (
                      .cond (.tmp 94) (
                        .goto 0) (
                        .skip))) (
                    .seq (
                      .seq (
                        .region [
                          ⟨some 95, .mov (.tmp 5), none⟩,
                          ⟨some 96, .mov (.tmp 6), none⟩,
                          ⟨some 2, .mov (.tmp 95), none⟩,
                          ⟨some 3, .mov (.tmp 96), none⟩,
                          ⟨some 4, .mov (.const (.int .i64 0)), none⟩]) (
                        .ret)) (
                      .seq (
                        .label 0) (
                        .seq (
                          .region [
                            ⟨some 2, .mov (.const (.int .i32 0)), none⟩,
                            ⟨some 3, .mov (.const (.int .i64 0)), none⟩,
                            ⟨some 4, .mov (.const (.int .i64 20)), none⟩]) (
                          .ret))))))))))))) }

/-- internal/stringslite.HasPrefix -/
def F_internal_stringslite_HasPrefix : ACFn := { nt := 18, results := [.tmp 4], body := (
  .seq (
    .region [
      ⟨some 4, .mov (.const (.bool false)), none⟩]) (
    .seq (
      .region [
        ⟨some 5, .mov (.tmp 0), none⟩,
        ⟨some 6, .len true (.tmp 5), none⟩,
        ⟨some 7, .mov (.tmp 1), none⟩,
        ⟨some 8, .len true (.tmp 7), none⟩,
        ⟨some 9, .bin .geq .no (.tmp 6) (.tmp 8), none⟩,
        ⟨some 10, .mov (.tmp 9), none⟩,
        ⟨some 11, .mov (.tmp 0), some (10, true)⟩,
        ⟨some 12, .mov (.tmp 1), some (10, true)⟩,
        ⟨some 13, .len true (.tmp 12), some (10, true)⟩,
        ⟨some 14, .slc 0 (.tmp 11) none (some (.tmp 13)) none, some (10, true)⟩,
        ⟨some 15, .mov (.tmp 1), some (10, true)⟩,
        ⟨some 16, .bin .eql .no (.tmp 14) (.tmp 15), some (10, true)⟩,
        ⟨some 17, .pick (.tmp 10) (.tmp 16) (.const (.bool false)), none⟩,
        ⟨some 4, .mov (.tmp 17), none⟩]) (
      .ret))) }

/-- posthorn/posthornref02.Points -/
def F_posthornref02_Points : ACFn := { nt := 34, results := [.tmp 2, .cell 3 true 2], body := (
  .seq (
    .region [
      ⟨some 2, .mov (.const (.nils)), none⟩,
      ⟨some 3, .alloc [.int .i64 0, .int .i64 0], none⟩]) (
    .seq (
      .region [
        ⟨some 4, .mov (.const (.nils)), none⟩]) (
      .seq (
        .region [
          ⟨some 5, .mov (.const (.int .i64 0)), none⟩]) (
        .seq (
          .block 0 (
            .loop (
              .seq (
                .seq (
                  .region [
                    ⟨some 9, .mov (.tmp 5), none⟩,
                    ⟨some 10, .mov (.tmp 0), none⟩,
                    ⟨some 11, .len false (.tmp 10), none⟩,
                    ⟨some 12, .bin .lss .no (.tmp 9) (.tmp 11), none⟩]) (
                  .cond (.tmp 12) (
                    .skip) (
                    .exit 0))) (
                .block 1 (
                  .seq (
                    .region [
                      ⟨some 14, .mov (.tmp 0), none⟩,
                      ⟨some 15, .mov (.tmp 5), none⟩,
                      ⟨some 16, .slc 1 (.tmp 14) (some (.tmp 15)) none none, none⟩,
                      ⟨some 17, .call (.fn 75) [(.tmp 16)], none⟩,
                      ⟨some 13, .mov (.tmp 17), none⟩,
                      ⟨some 18, .ext 0 (.tmp 13), none⟩,
                      ⟨some 19, .ext 1 (.tmp 13), none⟩,
                      ⟨some 20, .ext 2 (.tmp 13), none⟩,
                      ⟨some 6, .mov (.tmp 18), none⟩,
                      ⟨some 7, .mov (.tmp 19), none⟩,
                      ⟨some 8, .mov (.tmp 20), none⟩]) (
                    .seq (
                      .seq (
                        .region [
                          ⟨some 21, .mov (.tmp 8), none⟩,
                          ⟨some 22, .bin .neq .no (.tmp 21) (.const (.int .i64 0)), none⟩]) (
                        .cond (.tmp 22) (
                          .seq (
                            .region [
                              ⟨some 23, .mov (.tmp 5), none⟩,
                              ⟨some 24, .build [.int .i64 0, .int .i64 0] [(0, 1, (.tmp 23)), (1, 1, (.const (.int .i64 20)))], none⟩,
                              ⟨some 2, .mov (.const (.nils)), none⟩,
                              ⟨none, .store 2 (.tmp 3) (.tmp 24), none⟩]) (
                            .ret)) (
                          .skip))) (
                      .seq (
                        .region [
                          ⟨some 25, .mov (.tmp 4), none⟩,
                          ⟨some 26, .mov (.tmp 6), none⟩,
                          ⟨some 27, .lit 1 (.int .i32 0) 1 [(0, (.tmp 26))], none⟩,
                          ⟨some 28, .app false 1 (.tmp 25) (.tmp 27), none⟩,
                          ⟨some 4, .mov (.tmp 28), none⟩]) (
                        .region [
                          ⟨some 29, .mov (.tmp 5), none⟩,
                          ⟨some 30, .mov (.tmp 7), none⟩,
                          ⟨some 31, .bin .add .no (.tmp 29) (.tmp 30), none⟩,
                          ⟨some 5, .mov (.tmp 31), none⟩])))))))) (
          .seq (
            .region [
              ⟨some 32, .mov (.tmp 4), none⟩,
              ⟨some 33, .build [.int .i64 0, .int .i64 0] [], none⟩,
              ⟨some 2, .mov (.tmp 32), none⟩,
              ⟨none, .store 2 (.tmp 3) (.tmp 33), none⟩]) (
            .ret)))))) }

/-- posthorn/posthornref02.Put -/
def F_posthornref02_Put : ACFn := { nt := 67, results := [.tmp 2, .tmp 3], body := (
  .seq (
    .region [
      ⟨some 2, .mov (.const (.nils)), none⟩,
      ⟨some 3, .mov (.const (.int .i64 0)), none⟩]) (
    .seq (
      .seq (
        .region [
          ⟨some 5, .mov (.tmp 0), none⟩,
          ⟨some 6, .call (.fn 85) [(.tmp 5)], none⟩,
          ⟨some 7, .un .not (.tmp 6), none⟩]) (
        .cond (.tmp 7) (
          .seq (
            .region [
              ⟨some 2, .mov (.const (.nils)), none⟩,
              ⟨some 3, .mov (.const (.int .i64 20)), none⟩]) (
            .ret)) (
          .skip))) (
      .seq (
        .region [
          ⟨some 4, .mov (.const (.nils)), none⟩]) (
        .seq (
          .seq (
            .region [
              ⟨some 8, .mov (.tmp 0), none⟩,
              ⟨some 9, .bin .lss .no (.tmp 8) (.const (.int .i32 128)), none⟩]) (
            .cond (.tmp 9) (
              .seq (
                .region [
                  ⟨some 10, .mov (.tmp 4), none⟩,
                  ⟨some 11, .mov (.tmp 0), none⟩,
                  ⟨some 12, .cInt .u8 (.tmp 11), none⟩,
                  ⟨some 13, .lit8 1 [(0, (.tmp 12))], none⟩,
                  ⟨some 14, .app true 1 (.tmp 10) (.tmp 13), none⟩,
                  ⟨some 2, .mov (.tmp 14), none⟩,
                  ⟨some 3, .mov (.const (.int .i64 0)), none⟩]) (
                .ret)) (
              .skip))) (
          .seq (
            .seq (
              .region [
                ⟨some 15, .mov (.tmp 0), none⟩,
                ⟨some 16, .bin .lss .no (.tmp 15) (.const (.int .i32 2048)), none⟩]) (
              .cond (.tmp 16) (
                .seq (
                  .region [
                    ⟨some 17, .mov (.tmp 4), none⟩,
                    ⟨some 18, .mov (.tmp 0), none⟩,
                    ⟨some 19, .bin .quo .no (.tmp 18) (.const (.int .i32 64)), none⟩,
                    ⟨some 20, .bin .add .no (.const (.int .i32 192)) (.tmp 19), none⟩,
                    ⟨some 21, .cInt .u8 (.tmp 20), none⟩,
                    ⟨some 22, .mov (.tmp 0), none⟩,
                    ⟨some 23, .bin .rem .no (.tmp 22) (.const (.int .i32 64)), none⟩,
                    ⟨some 24, .bin .add .no (.const (.int .i32 128)) (.tmp 23), none⟩,
                    ⟨some 25, .cInt .u8 (.tmp 24), none⟩,
                    ⟨some 26, .lit8 2 [(0, (.tmp 21)), (1, (.tmp 25))], none⟩,
                    ⟨some 27, .app true 1 (.tmp 17) (.tmp 26), none⟩,
                    ⟨some 2, .mov (.tmp 27), none⟩,
                    ⟨some 3, .mov (.const (.int .i64 0)), none⟩]) (
                  .ret)) (
                .skip))) (
            .seq (
              .seq (
                .region [
                  ⟨some 28, .mov (.tmp 0), none⟩,
                  ⟨some 29, .bin .lss .no (.tmp 28) (.const (.int .i32 65536)), none⟩]) (
                .cond (.tmp 29) (
                  .seq (
                    .region [
                      ⟨some 30, .mov (.tmp 4), none⟩,
                      ⟨some 31, .mov (.tmp 0), none⟩,
                      ⟨some 32, .bin .quo .no (.tmp 31) (.const (.int .i32 4096)), none⟩,
                      ⟨some 33, .bin .add .no (.const (.int .i32 224)) (.tmp 32), none⟩,
                      ⟨some 34, .cInt .u8 (.tmp 33), none⟩,
                      ⟨some 35, .mov (.tmp 0), none⟩,
                      ⟨some 36, .bin .quo .no (.tmp 35) (.const (.int .i32 64)), none⟩,
                      ⟨some 37, .bin .rem .no (.tmp 36) (.const (.int .i32 64)), none⟩,
                      ⟨some 38, .bin .add .no (.const (.int .i32 128)) (.tmp 37), none⟩,
                      ⟨some 39, .cInt .u8 (.tmp 38), none⟩,
                      ⟨some 40, .mov (.tmp 0), none⟩,
                      ⟨some 41, .bin .rem .no (.tmp 40) (.const (.int .i32 64)), none⟩,
                      ⟨some 42, .bin .add .no (.const (.int .i32 128)) (.tmp 41), none⟩,
                      ⟨some 43, .cInt .u8 (.tmp 42), none⟩,
                      ⟨some 44, .lit8 3 [(0, (.tmp 34)), (1, (.tmp 39)), (2, (.tmp 43))], none⟩,
                      ⟨some 45, .app true 1 (.tmp 30) (.tmp 44), none⟩,
                      ⟨some 2, .mov (.tmp 45), none⟩,
                      ⟨some 3, .mov (.const (.int .i64 0)), none⟩]) (
                    .ret)) (
                  .skip))) (
              .seq (
                .region [
                  ⟨some 46, .mov (.tmp 4), none⟩,
                  ⟨some 47, .mov (.tmp 0), none⟩,
                  ⟨some 48, .bin .quo .no (.tmp 47) (.const (.int .i32 262144)), none⟩,
                  ⟨some 49, .bin .add .no (.const (.int .i32 240)) (.tmp 48), none⟩,
                  ⟨some 50, .cInt .u8 (.tmp 49), none⟩,
                  ⟨some 51, .mov (.tmp 0), none⟩,
                  ⟨some 52, .bin .quo .no (.tmp 51) (.const (.int .i32 4096)), none⟩,
                  ⟨some 53, .bin .rem .no (.tmp 52) (.const (.int .i32 64)), none⟩,
                  ⟨some 54, .bin .add .no (.const (.int .i32 128)) (.tmp 53), none⟩,
                  ⟨some 55, .cInt .u8 (.tmp 54), none⟩,
                  ⟨some 56, .mov (.tmp 0), none⟩,
                  ⟨some 57, .bin .quo .no (.tmp 56) (.const (.int .i32 64)), none⟩,
                  ⟨some 58, .bin .rem .no (.tmp 57) (.const (.int .i32 64)), none⟩,
                  ⟨some 59, .bin .add .no (.const (.int .i32 128)) (.tmp 58), none⟩,
                  ⟨some 60, .cInt .u8 (.tmp 59), none⟩,
                  ⟨some 61, .mov (.tmp 0), none⟩,
                  ⟨some 62, .bin .rem .no (.tmp 61) (.const (.int .i32 64)), none⟩,
                  ⟨some 63, .bin .add .no (.const (.int .i32 128)) (.tmp 62), none⟩,
                  ⟨some 64, .cInt .u8 (.tmp 63), none⟩,
                  ⟨some 65, .lit8 4 [(0, (.tmp 50)), (1, (.tmp 55)), (2, (.tmp 60)), (3, (.tmp 64))], none⟩,
                  ⟨some 66, .app true 1 (.tmp 46) (.tmp 65), none⟩,
                  ⟨some 2, .mov (.tmp 66), none⟩,
                  ⟨some 3, .mov (.const (.int .i64 0)), none⟩]) (
                .ret)))))))) }

/-- posthorn/utf.isPoint -/
def F_utf_isPoint : ACFn := { nt := 17, results := [.tmp 2], body := (
  .seq (
    .region [
      ⟨some 2, .mov (.const (.bool false)), none⟩]) (
    .seq (
      .region [
        ⟨some 3, .mov (.tmp 0), none⟩,
        ⟨some 4, .bin .geq .no (.tmp 3) (.const (.int .i32 0)), none⟩,
        ⟨some 5, .mov (.tmp 4), none⟩,
        ⟨some 6, .mov (.tmp 0), some (5, true)⟩,
        ⟨some 7, .bin .leq .no (.tmp 6) (.const (.int .i32 1114111)), some (5, true)⟩,
        ⟨some 8, .pick (.tmp 5) (.tmp 7) (.const (.bool false)), none⟩,
        ⟨some 9, .mov (.tmp 8), none⟩,
        ⟨some 10, .mov (.tmp 0), some (9, true)⟩,
        ⟨some 11, .bin .lss .no (.tmp 10) (.const (.int .i32 55296)), some (9, true)⟩,
        ⟨some 12, .mov (.tmp 11), some (9, true)⟩,
        ⟨some 13, .mov (.tmp 0), some (12, false)⟩,
        ⟨some 14, .bin .gtr .no (.tmp 13) (.const (.int .i32 57343)), some (12, false)⟩,
        ⟨some 15, .pick (.tmp 12) (.const (.bool true)) (.tmp 14), some (9, true)⟩,
        ⟨some 16, .pick (.tmp 9) (.tmp 15) (.const (.bool false)), none⟩,
        ⟨some 2, .mov (.tmp 16), none⟩]) (
      .ret))) }

/-- posthorn/posthornref02.Point -/
def F_posthornref02_Point : ACFn := { nt := 17, results := [.tmp 2], body := (
  .seq (
    .region [
      ⟨some 2, .mov (.const (.bool false)), none⟩]) (
    .seq (
      .region [
        ⟨some 3, .mov (.tmp 0), none⟩,
        ⟨some 4, .bin .geq .no (.tmp 3) (.const (.int .i32 0)), none⟩,
        ⟨some 5, .mov (.tmp 4), none⟩,
        ⟨some 6, .mov (.tmp 0), some (5, true)⟩,
        ⟨some 7, .bin .lss .no (.tmp 6) (.const (.int .i32 55296)), some (5, true)⟩,
        ⟨some 8, .pick (.tmp 5) (.tmp 7) (.const (.bool false)), none⟩,
        ⟨some 9, .mov (.tmp 8), none⟩,
        ⟨some 10, .mov (.tmp 0), some (9, false)⟩,
        ⟨some 11, .bin .gtr .no (.tmp 10) (.const (.int .i32 57343)), some (9, false)⟩,
        ⟨some 12, .mov (.tmp 11), some (9, false)⟩,
        ⟨some 13, .mov (.tmp 0), some (12, true)⟩,
        ⟨some 14, .bin .leq .no (.tmp 13) (.const (.int .i32 1114111)), some (12, true)⟩,
        ⟨some 15, .pick (.tmp 12) (.tmp 14) (.const (.bool false)), some (9, false)⟩,
        ⟨some 16, .pick (.tmp 9) (.const (.bool true)) (.tmp 15), none⟩,
        ⟨some 2, .mov (.tmp 16), none⟩]) (
      .ret))) }

end Go.Ab

/-
  The abstract code of functions, printed by program (abgen.py, abput2.py).
-/
namespace Go.Ab

/-- posthorn/posthornlaw06.Great -/
def F_posthornlaw06_Great : ACFn := { nt := 42, results := [.tmp 2], body := (
  .seq (
    .region [
      ⟨some 2, .mov (.const (.bool false)), none⟩]) (
    .seq (
      .seq (
        .region [
          ⟨some 4, .mov (.tmp 0), none⟩,
          ⟨some 5, .len false (.tmp 4), none⟩,
          ⟨some 6, .bin .gtr .no (.tmp 5) (.const (.int .i64 200)), none⟩]) (
        .cond (.tmp 6) (
          .seq (
            .region [
              ⟨some 2, .mov (.const (.bool true)), none⟩]) (
            .ret)) (
          .skip))) (
      .seq (
        .seq (
          .region [
            ⟨some 3, .mov (.const (.int .i64 0)), none⟩]) (
          .block 0 (
            .loop (
              .seq (
                .seq (
                  .region [
                    ⟨some 7, .mov (.tmp 3), none⟩,
                    ⟨some 8, .mov (.tmp 0), none⟩,
                    ⟨some 9, .len false (.tmp 8), none⟩,
                    ⟨some 10, .bin .lss .no (.tmp 7) (.tmp 9), none⟩]) (
                  .cond (.tmp 10) (
                    .skip) (
                    .exit 0))) (
                .seq (
                  .block 1 (
                    .seq (
                      .region [
                        ⟨some 13, .mov (.tmp 0), none⟩,
                        ⟨some 14, .mov (.tmp 3), none⟩,
                        ⟨some 15, .iaddr 2 (.tmp 13) (.tmp 14), none⟩,
                        ⟨some 16, .faddr 0 (.tmp 15), none⟩,
                        ⟨some 17, .load false 1 (.tmp 16), none⟩,
                        ⟨some 18, .len true (.tmp 17), none⟩,
                        ⟨some 19, .bin .gtr .no (.tmp 18) (.const (.int .i64 200)), none⟩,
                        ⟨some 20, .mov (.tmp 19), none⟩,
                        ⟨some 21, .mov (.tmp 0), some (20, false)⟩,
                        ⟨some 22, .mov (.tmp 3), some (20, false)⟩,
                        ⟨some 23, .iaddr 2 (.tmp 21) (.tmp 22), some (20, false)⟩,
                        ⟨some 24, .faddr 1 (.tmp 23), some (20, false)⟩,
                        ⟨some 25, .load false 1 (.tmp 24), some (20, false)⟩,
                        ⟨some 26, .len true (.tmp 25), some (20, false)⟩,
                        ⟨some 27, .bin .gtr .no (.tmp 26) (.const (.int .i64 5000)), some (20, false)⟩,
                        ⟨some 28, .pick (.tmp 20) (.const (.bool true)) (.tmp 27), none⟩,
                        ⟨some 29, .mov (.tmp 28), none⟩,
                        ⟨some 30, .mov (.tmp 3), some (29, false)⟩,
                        ⟨some 31, .bin .gtr .no (.tmp 30) (.const (.int .i64 20)), some (29, false)⟩,
                        ⟨some 32, .mov (.tmp 31), some (29, false)⟩,
                        ⟨some 33, .mov (.tmp 0), some (32, true)⟩,
                        ⟨some 34, .mov (.tmp 3), some (32, true)⟩,
                        ⟨some 35, .iaddr 2 (.tmp 33) (.tmp 34), some (32, true)⟩,
                        ⟨some 36, .faddr 1 (.tmp 35), some (32, true)⟩,
                        ⟨some 37, .load false 1 (.tmp 36), some (32, true)⟩,
                        ⟨some 38, .len true (.tmp 37), some (32, true)⟩,
                        ⟨some 39, .bin .gtr .no (.tmp 38) (.const (.int .i64 100)), some (32, true)⟩,
                        ⟨some 40, .pick (.tmp 32) (.tmp 39) (.const (.bool false)), some (29, false)⟩,
                        ⟨some 41, .pick (.tmp 29) (.const (.bool true)) (.tmp 40), none⟩]) (
                      .cond (.tmp 41) (
                        .seq (
                          .region [
                            ⟨some 2, .mov (.const (.bool true)), none⟩]) (
                          .ret)) (
                        .skip)))) (
                  .region [
                    ⟨some 11, .mov (.tmp 3), none⟩,
                    ⟨some 12, .bin .add .no (.tmp 11) (.const (.int .i64 1)), none⟩,
                    ⟨some 3, .mov (.tmp 12), none⟩])))))) (
        .seq (
          .region [
            ⟨some 2, .mov (.const (.bool false)), none⟩]) (
          .ret))))) }

/-- posthorn/fields.Get -/
def F_fields_Get : ACFn := { nt := 29, results := [.tmp 4, .tmp 5], body := (
  .seq (
    .region [
      ⟨some 4, .mov (.const (.str [])), none⟩,
      ⟨some 5, .mov (.const (.int .i64 0)), none⟩]) (
    .seq (
      .region [
        ⟨some 6, .mov (.const (.str [])), none⟩,
        ⟨some 7, .mov (.const (.int .i64 0)), none⟩]) (
      .seq (
        .seq (
          .region [
            ⟨some 10, .mov (.tmp 0), none⟩,
            ⟨some 11, .len false (.tmp 10), none⟩,
            ⟨some 12, .mov (.const (.int .i64 0)), none⟩]) (
          .block 0 (
            .loop (
              .seq (
                .region [
                  ⟨some 13, .bin .lss .no (.tmp 12) (.tmp 11), none⟩]) (
                .seq (
                  .cond (.tmp 13) (
                    .skip) (
                    .exit 0)) (
                  .seq (
                    .block 1 (
                      .seq (
                        .region [
                          ⟨some 14, .iaddr 2 (.tmp 10) (.tmp 12), none⟩,
                          ⟨some 15, .load true 2 (.tmp 14), none⟩,
                          ⟨some 9, .alloc [.str [], .str []], none⟩,
                          ⟨none, .store 2 (.tmp 9) (.tmp 15), none⟩]) (
                        .seq (
                          .region [
                            ⟨some 16, .faddr 0 (.tmp 9), none⟩,
                            ⟨some 17, .load false 1 (.tmp 16), none⟩,
                            ⟨some 18, .mov (.tmp 1), none⟩,
                            ⟨some 19, .call (.fn 155) [(.tmp 17), (.tmp 18)], none⟩]) (
                          .cond (.tmp 19) (
                            .seq (
                              .seq (
                                .region [
                                  ⟨some 20, .mov (.tmp 7), none⟩,
                                  ⟨some 21, .bin .eql .no (.tmp 20) (.const (.int .i64 0)), none⟩]) (
                                .cond (.tmp 21) (
                                  .region [
                                    ⟨some 22, .faddr 1 (.tmp 9), none⟩,
                                    ⟨some 23, .load false 1 (.tmp 22), none⟩,
                                    ⟨some 6, .mov (.tmp 23), none⟩]) (
                                  .skip))) (
                              .region [
                                ⟨some 24, .mov (.tmp 7), none⟩,
                                ⟨some 25, .bin .add .no (.tmp 24) (.const (.int .i64 1)), none⟩,
                                ⟨some 7, .mov (.tmp 25), none⟩])) (
                            .skip))))) (
                    .region [
                      ⟨some 26, .bin .add .no (.tmp 12) (.const (.int .i64 1)), none⟩,
                      ⟨some 12, .mov (.tmp 26), none⟩]))))))) (
        .seq (
          .region [
            ⟨some 27, .mov (.tmp 6), none⟩,
            ⟨some 28, .mov (.tmp 7), none⟩,
            ⟨some 4, .mov (.tmp 27), none⟩,
            ⟨some 5, .mov (.tmp 28), none⟩]) (
          .ret))))) }

/-- posthorn/fields.Same -/
def F_fields_Same : ACFn := { nt := 10, results := [.tmp 4], body := (
  .seq (
    .region [
      ⟨some 4, .mov (.const (.bool false)), none⟩]) (
    .seq (
      .region [
        ⟨some 5, .mov (.tmp 0), none⟩,
        ⟨some 6, .call (.fn 167) [(.tmp 5)], none⟩,
        ⟨some 7, .mov (.tmp 1), none⟩,
        ⟨some 8, .call (.fn 167) [(.tmp 7)], none⟩,
        ⟨some 9, .bin .eql .no (.tmp 6) (.tmp 8), none⟩,
        ⟨some 4, .mov (.tmp 9), none⟩]) (
      .ret))) }

/-- posthorn/fields.isName -/
def F_fields_isName : ACFn := { nt := 34, results := [.tmp 2], body := (
  .seq (
    .region [
      ⟨some 2, .mov (.const (.bool false)), none⟩]) (
    .seq (
      .seq (
        .region [
          ⟨some 4, .mov (.tmp 0), none⟩,
          ⟨some 5, .len true (.tmp 4), none⟩,
          ⟨some 6, .bin .lss .no (.tmp 5) (.const (.int .i64 1)), none⟩,
          ⟨some 7, .mov (.tmp 6), none⟩,
          ⟨some 8, .mov (.tmp 0), some (7, false)⟩,
          ⟨some 9, .len true (.tmp 8), some (7, false)⟩,
          ⟨some 10, .bin .gtr .no (.tmp 9) (.const (.int .i64 64)), some (7, false)⟩,
          ⟨some 11, .pick (.tmp 7) (.const (.bool true)) (.tmp 10), none⟩]) (
        .cond (.tmp 11) (
          .seq (
            .region [
              ⟨some 2, .mov (.const (.bool false)), none⟩]) (
            .ret)) (
          .skip))) (
      .seq (
        .seq (
          .region [
            ⟨some 12, .mov (.tmp 0), none⟩,
            ⟨some 13, .len true (.tmp 12), none⟩,
            ⟨some 14, .mov (.const (.int .i64 0)), none⟩]) (
          .block 0 (
            .loop (
              .seq (
                .region [
                  ⟨some 15, .bin .lss .no (.tmp 14) (.tmp 13), none⟩]) (
                .seq (
                  .cond (.tmp 15) (
                    .skip) (
                    .exit 0)) (
                  .seq (
                    .block 1 (
                      .seq (
                        .region [
                          ⟨some 16, .mov (.tmp 14), none⟩,
                          ⟨some 3, .mov (.tmp 16), none⟩]) (
                        .seq (
                          .region [
                            ⟨some 17, .mov (.tmp 0), none⟩,
                            ⟨some 18, .mov (.tmp 3), none⟩,
                            ⟨some 19, .idxS (.tmp 17) (.tmp 18), none⟩,
                            ⟨some 20, .bin .lss .no (.tmp 19) (.const (.b8 33)), none⟩,
                            ⟨some 21, .mov (.tmp 20), none⟩,
                            ⟨some 22, .mov (.tmp 0), some (21, false)⟩,
                            ⟨some 23, .mov (.tmp 3), some (21, false)⟩,
                            ⟨some 24, .idxS (.tmp 22) (.tmp 23), some (21, false)⟩,
                            ⟨some 25, .bin .gtr .no (.tmp 24) (.const (.b8 126)), some (21, false)⟩,
                            ⟨some 26, .pick (.tmp 21) (.const (.bool true)) (.tmp 25), none⟩,
                            ⟨some 27, .mov (.tmp 26), none⟩,
                            ⟨some 28, .mov (.tmp 0), some (27, false)⟩,
                            ⟨some 29, .mov (.tmp 3), some (27, false)⟩,
                            ⟨some 30, .idxS (.tmp 28) (.tmp 29), some (27, false)⟩,
                            ⟨some 31, .bin .eql .no (.tmp 30) (.const (.b8 58)), some (27, false)⟩,
                            ⟨some 32, .pick (.tmp 27) (.const (.bool true)) (.tmp 31), none⟩]) (
                          .cond (.tmp 32) (
                            .seq (
                              .region [
                                ⟨some 2, .mov (.const (.bool false)), none⟩]) (
                              .ret)) (
                            .skip))))) (
                    .region [
                      ⟨some 33, .bin .add .no (.tmp 14) (.const (.int .i64 1)), none⟩,
                      ⟨some 14, .mov (.tmp 33), none⟩]))))))) (
        .seq (
          .region [
            ⟨some 2, .mov (.const (.bool true)), none⟩]) (
          .ret))))) }

/-- posthorn/posthornref06.Name -/
def F_posthornref06_Name : ACFn := { nt := 34, results := [.tmp 2], body := (
  .seq (
    .region [
      ⟨some 2, .mov (.const (.bool false)), none⟩]) (
    .seq (
      .seq (
        .region [
          ⟨some 3, .mov (.const (.int .i64 0)), none⟩]) (
        .block 0 (
          .loop (
            .seq (
              .seq (
                .region [
                  ⟨some 4, .mov (.tmp 3), none⟩,
                  ⟨some 5, .mov (.tmp 0), none⟩,
                  ⟨some 6, .len true (.tmp 5), none⟩,
                  ⟨some 7, .bin .lss .no (.tmp 4) (.tmp 6), none⟩]) (
                .cond (.tmp 7) (
                  .skip) (
                  .exit 0))) (
              .seq (
                .block 1 (
                  .seq (
                    .region [
                      ⟨some 10, .mov (.tmp 0), none⟩,
                      ⟨some 11, .mov (.tmp 3), none⟩,
                      ⟨some 12, .idxS (.tmp 10) (.tmp 11), none⟩,
                      ⟨some 13, .bin .leq .no (.tmp 12) (.const (.b8 32)), none⟩,
                      ⟨some 14, .mov (.tmp 13), none⟩,
                      ⟨some 15, .mov (.tmp 0), some (14, false)⟩,
                      ⟨some 16, .mov (.tmp 3), some (14, false)⟩,
                      ⟨some 17, .idxS (.tmp 15) (.tmp 16), some (14, false)⟩,
                      ⟨some 18, .bin .geq .no (.tmp 17) (.const (.b8 127)), some (14, false)⟩,
                      ⟨some 19, .pick (.tmp 14) (.const (.bool true)) (.tmp 18), none⟩,
                      ⟨some 20, .mov (.tmp 19), none⟩,
                      ⟨some 21, .mov (.tmp 0), some (20, false)⟩,
                      ⟨some 22, .mov (.tmp 3), some (20, false)⟩,
                      ⟨some 23, .idxS (.tmp 21) (.tmp 22), some (20, false)⟩,
                      ⟨some 24, .bin .eql .no (.tmp 23) (.const (.b8 58)), some (20, false)⟩,
                      ⟨some 25, .pick (.tmp 20) (.const (.bool true)) (.tmp 24), none⟩]) (
                    .cond (.tmp 25) (
                      .seq (
                        .region [
                          ⟨some 2, .mov (.const (.bool false)), none⟩]) (
                        .ret)) (
                      .skip)))) (
                .region [
                  ⟨some 8, .mov (.tmp 3), none⟩,
                  ⟨some 9, .bin .add .no (.tmp 8) (.const (.int .i64 1)), none⟩,
                  ⟨some 3, .mov (.tmp 9), none⟩])))))) (
      .seq (
        .region [
          ⟨some 26, .mov (.tmp 0), none⟩,
          ⟨some 27, .len true (.tmp 26), none⟩,
          ⟨some 28, .bin .geq .no (.tmp 27) (.const (.int .i64 1)), none⟩,
          ⟨some 29, .mov (.tmp 28), none⟩,
          ⟨some 30, .mov (.tmp 0), some (29, true)⟩,
          ⟨some 31, .len true (.tmp 30), some (29, true)⟩,
          ⟨some 32, .bin .leq .no (.tmp 31) (.const (.int .i64 64)), some (29, true)⟩,
          ⟨some 33, .pick (.tmp 29) (.tmp 32) (.const (.bool false)), none⟩,
          ⟨some 2, .mov (.tmp 33), none⟩]) (
        .ret)))) }

/-- posthorn/fields.lower -/
def F_fields_lower : ACFn := { nt := 29, results := [.tmp 2], body := (
  .seq (
    .region [
      ⟨some 2, .mov (.const (.str [])), none⟩]) (
    .seq (
      .region [
        ⟨some 6, .mov (.tmp 0), none⟩,
        ⟨some 7, .cS2B true (.tmp 6), none⟩,
        ⟨some 3, .mov (.tmp 7), none⟩]) (
      .seq (
        .seq (
          .region [
            ⟨some 8, .mov (.tmp 3), none⟩,
            ⟨some 9, .len false (.tmp 8), none⟩,
            ⟨some 10, .mov (.const (.int .i64 0)), none⟩]) (
          .block 0 (
            .loop (
              .seq (
                .region [
                  ⟨some 11, .bin .lss .no (.tmp 10) (.tmp 9), none⟩]) (
                .seq (
                  .cond (.tmp 11) (
                    .skip) (
                    .exit 0)) (
                  .seq (
                    .block 1 (
                      .seq (
                        .region [
                          ⟨some 12, .mov (.tmp 10), none⟩,
                          ⟨some 13, .iaddr 1 (.tmp 8) (.tmp 10), none⟩,
                          ⟨some 14, .load false 1 (.tmp 13), none⟩,
                          ⟨some 4, .mov (.tmp 12), none⟩,
                          ⟨some 5, .mov (.tmp 14), none⟩]) (
                        .seq (
                          .region [
                            ⟨some 15, .mov (.tmp 5), none⟩,
                            ⟨some 16, .bin .geq .no (.tmp 15) (.const (.b8 65)), none⟩,
                            ⟨some 17, .mov (.tmp 16), none⟩,
                            ⟨some 18, .mov (.tmp 5), some (17, true)⟩,
                            ⟨some 19, .bin .leq .no (.tmp 18) (.const (.b8 90)), some (17, true)⟩,
                            ⟨some 20, .pick (.tmp 17) (.tmp 19) (.const (.bool false)), none⟩]) (
                          .cond (.tmp 20) (
                            .region [
                              ⟨some 21, .mov (.tmp 3), none⟩,
                              ⟨some 22, .mov (.tmp 4), none⟩,
                              ⟨some 23, .mov (.tmp 5), none⟩,
                              ⟨some 24, .bin .add .no (.tmp 23) (.const (.b8 32)), none⟩,
                              ⟨some 25, .iaddr 1 (.tmp 21) (.tmp 22), none⟩,
                              ⟨none, .store 1 (.tmp 25) (.tmp 24), none⟩]) (
                            .skip))))) (
                    .region [
                      ⟨some 26, .bin .add .no (.tmp 10) (.const (.int .i64 1)), none⟩,
                      ⟨some 10, .mov (.tmp 26), none⟩]))))))) (
        .seq (
          .region [
            ⟨some 27, .mov (.tmp 3), none⟩,
            ⟨some 28, .cB2S true (.tmp 27), none⟩,
            ⟨some 2, .mov (.tmp 28), none⟩]) (
          .ret))))) }

/-- posthorn/posthornref06.blank -/
def F_posthornref06_blank : ACFn := { nt := 9, results := [.tmp 2], body := (
  .seq (
    .region [
      ⟨some 2, .mov (.const (.bool false)), none⟩]) (
    .seq (
      .region [
        ⟨some 3, .mov (.tmp 0), none⟩,
        ⟨some 4, .bin .eql .no (.tmp 3) (.const (.b8 32)), none⟩,
        ⟨some 5, .mov (.tmp 4), none⟩,
        ⟨some 6, .mov (.tmp 0), some (5, false)⟩,
        ⟨some 7, .bin .eql .no (.tmp 6) (.const (.b8 9)), some (5, false)⟩,
        ⟨some 8, .pick (.tmp 5) (.const (.bool true)) (.tmp 7), none⟩,
        ⟨some 2, .mov (.tmp 8), none⟩]) (
      .ret))) }

end Go.Ab

/-
  The abstract program: functions by their numbers.
-/
namespace Go.Ab
def prog : AP := fun n => (if n < 65 then (if n < 51 then (if n < 44 then (if n < 41 then (if n < 22 then (if n = 8 then some (.code F_posthornref05_Lines) else none)
  else (if n < 40 then (if n = 22 then some (.code F_posthornref03_Pair) else none)
  else (if n = 40 then some (.code F_posthornlaw10_alive) else none)))
  else (if n < 42 then (if n = 41 then some (.code F_sheet_Unescape) else none)
  else (if n < 43 then (if n = 42 then some (.code F_posthornref10_Unescape) else none)
  else (if n = 43 then some (.code F_sheet_Escape) else none))))
  else (if n < 47 then (if n < 45 then (if n = 44 then some (.code F_posthornref10_Escape) else none)
  else (if n < 46 then (if n = 45 then some (.code F_posthornlaw10_SheetEscapes) else none)
  else (if n = 46 then some (.code F_posthornlaw10_SheetTexts) else none)))
  else (if n < 49 then (if n < 48 then (if n = 47 then some (.code F_posthornlaw10_Great) else none)
  else (if n = 48 then some (.code F_sheet_Write) else none))
  else (if n < 50 then (if n = 49 then some (.code F_posthornref10_Write) else none)
  else (if n = 50 then some (.code F_sheet_Right) else none)))))
  else (if n < 58 then (if n < 54 then (if n < 52 then (if n = 51 then some (.code F_posthornref10_Right) else none)
  else (if n < 53 then (if n = 52 then some (.code F_posthornlaw10_SheetWrites) else none)
  else (if n = 53 then some (.code F_utf_Valid) else none)))
  else (if n < 56 then (if n < 55 then (if n = 54 then some (.code F_posthornlaw10_SheetFolds) else none)
  else (if n = 55 then some (.code F_sheet_One) else none))
  else (if n < 57 then (if n = 56 then some (.code F_posthornref04_Has) else none)
  else (if n = 57 then some (.code F_P_strings_Builder_WriteByte) else none))))
  else (if n < 61 then (if n < 59 then (if n = 58 then some (.code F_P_strings_Builder_WriteString) else none)
  else (if n < 60 then (if n = 59 then some (.primS pBuilderString) else none)
  else (if n = 60 then some (.code F_sheet_line) else none)))
  else (if n < 63 then (if n < 62 then (if n = 61 then some (.code F_utf_Cut) else none)
  else (if n = 62 then some (.code F_posthornref10_Plain) else none))
  else (if n < 64 then (if n = 63 then some (.code F_posthornref02_Cut) else none)
  else (if n = 64 then some (.code F_sheet_isName) else none))))))
  else (if n < 78 then (if n < 71 then (if n < 68 then (if n < 66 then (if n = 65 then some (.code F_sheet_isText) else none)
  else (if n < 67 then (if n = 66 then some (.code F_strings_Contains) else none)
  else (if n = 67 then some (.code F_posthornref10_Name) else none)))
  else (if n < 69 then (if n = 68 then some (.code F_posthornref10_Text) else none)
  else (if n < 70 then (if n = 69 then some (.code F_utf_Points) else none)
  else (if n = 70 then some (.code F_sheet_cut) else none))))
  else (if n < 74 then (if n < 72 then (if n = 71 then some (.code F_sheet_upper) else none)
  else (if n < 73 then (if n = 72 then some (.code F_strings_HasPrefix) else none)
  else (if n = 73 then some (.primS pCopyCheck) else none)))
  else (if n < 76 then (if n < 75 then (if n = 74 then some (.code F_posthornref02_Valid) else none)
  else (if n = 75 then some (.code F_posthornref02_Next) else none))
  else (if n < 77 then (if n = 76 then some (.code F_strings_Index) else none)
  else (if n = 77 then some (.code F_utf_Next) else none)))))
  else (if n < 143 then (if n < 81 then (if n < 79 then (if n = 78 then some (.prim pStrIndexByte) else none)
  else (if n < 80 then (if n = 79 then some (.code F_internal_stringslite_HasPrefix) else none)
  else (if n = 80 then some (.code F_posthornref02_Points) else none)))
  else (if n < 83 then (if n < 82 then (if n = 81 then some (.code F_posthornref02_Put) else none)
  else (if n = 82 then some (.prim pStrIndex) else none))
  else (if n < 85 then (if n = 83 then some (.code F_utf_isPoint) else none)
  else (if n = 85 then some (.code F_posthornref02_Point) else none))))
  else (if n < 157 then (if n < 147 then (if n = 143 then some (.code F_posthornlaw06_Great) else none)
  else (if n < 155 then (if n = 147 then some (.code F_fields_Get) else none)
  else (if n = 155 then some (.code F_fields_Same) else none)))
  else (if n < 167 then (if n < 160 then (if n = 157 then some (.code F_fields_isName) else none)
  else (if n = 160 then some (.code F_posthornref06_Name) else none))
  else (if n < 173 then (if n = 167 then some (.code F_fields_lower) else none)
  else (if n = 173 then some (.code F_posthornref06_blank) else none)))))))
theorem prog_8 : prog 8 = some (.code F_posthornref05_Lines) := rfl
theorem prog_22 : prog 22 = some (.code F_posthornref03_Pair) := rfl
theorem prog_40 : prog 40 = some (.code F_posthornlaw10_alive) := rfl
theorem prog_41 : prog 41 = some (.code F_sheet_Unescape) := rfl
theorem prog_42 : prog 42 = some (.code F_posthornref10_Unescape) := rfl
theorem prog_43 : prog 43 = some (.code F_sheet_Escape) := rfl
theorem prog_44 : prog 44 = some (.code F_posthornref10_Escape) := rfl
theorem prog_45 : prog 45 = some (.code F_posthornlaw10_SheetEscapes) := rfl
theorem prog_46 : prog 46 = some (.code F_posthornlaw10_SheetTexts) := rfl
theorem prog_47 : prog 47 = some (.code F_posthornlaw10_Great) := rfl
theorem prog_48 : prog 48 = some (.code F_sheet_Write) := rfl
theorem prog_49 : prog 49 = some (.code F_posthornref10_Write) := rfl
theorem prog_50 : prog 50 = some (.code F_sheet_Right) := rfl
theorem prog_51 : prog 51 = some (.code F_posthornref10_Right) := rfl
theorem prog_52 : prog 52 = some (.code F_posthornlaw10_SheetWrites) := rfl
theorem prog_53 : prog 53 = some (.code F_utf_Valid) := rfl
theorem prog_54 : prog 54 = some (.code F_posthornlaw10_SheetFolds) := rfl
theorem prog_55 : prog 55 = some (.code F_sheet_One) := rfl
theorem prog_56 : prog 56 = some (.code F_posthornref04_Has) := rfl
theorem prog_57 : prog 57 = some (.code F_P_strings_Builder_WriteByte) := rfl
theorem prog_58 : prog 58 = some (.code F_P_strings_Builder_WriteString) := rfl
theorem prog_59 : prog 59 = some (.primS pBuilderString) := rfl
theorem prog_60 : prog 60 = some (.code F_sheet_line) := rfl
theorem prog_61 : prog 61 = some (.code F_utf_Cut) := rfl
theorem prog_62 : prog 62 = some (.code F_posthornref10_Plain) := rfl
theorem prog_63 : prog 63 = some (.code F_posthornref02_Cut) := rfl
theorem prog_64 : prog 64 = some (.code F_sheet_isName) := rfl
theorem prog_65 : prog 65 = some (.code F_sheet_isText) := rfl
theorem prog_66 : prog 66 = some (.code F_strings_Contains) := rfl
theorem prog_67 : prog 67 = some (.code F_posthornref10_Name) := rfl
theorem prog_68 : prog 68 = some (.code F_posthornref10_Text) := rfl
theorem prog_69 : prog 69 = some (.code F_utf_Points) := rfl
theorem prog_70 : prog 70 = some (.code F_sheet_cut) := rfl
theorem prog_71 : prog 71 = some (.code F_sheet_upper) := rfl
theorem prog_72 : prog 72 = some (.code F_strings_HasPrefix) := rfl
theorem prog_73 : prog 73 = some (.primS pCopyCheck) := rfl
theorem prog_74 : prog 74 = some (.code F_posthornref02_Valid) := rfl
theorem prog_75 : prog 75 = some (.code F_posthornref02_Next) := rfl
theorem prog_76 : prog 76 = some (.code F_strings_Index) := rfl
theorem prog_77 : prog 77 = some (.code F_utf_Next) := rfl
theorem prog_78 : prog 78 = some (.prim pStrIndexByte) := rfl
theorem prog_79 : prog 79 = some (.code F_internal_stringslite_HasPrefix) := rfl
theorem prog_80 : prog 80 = some (.code F_posthornref02_Points) := rfl
theorem prog_81 : prog 81 = some (.code F_posthornref02_Put) := rfl
theorem prog_82 : prog 82 = some (.prim pStrIndex) := rfl
theorem prog_83 : prog 83 = some (.code F_utf_isPoint) := rfl
theorem prog_85 : prog 85 = some (.code F_posthornref02_Point) := rfl
theorem prog_143 : prog 143 = some (.code F_posthornlaw06_Great) := rfl
theorem prog_147 : prog 147 = some (.code F_fields_Get) := rfl
theorem prog_155 : prog 155 = some (.code F_fields_Same) := rfl
theorem prog_157 : prog 157 = some (.code F_fields_isName) := rfl
theorem prog_160 : prog 160 = some (.code F_posthornref06_Name) := rfl
theorem prog_167 : prog 167 = some (.code F_fields_lower) := rfl
theorem prog_173 : prog 173 = some (.code F_posthornref06_blank) := rfl
end Go.Ab

/-
  Slices that grow: what a function has made itself.
-/
namespace Go.Ab
set_option linter.unusedVariables false
set_option linter.unusedSimpArgs false

/-- A state that has grown: its boxes and loops are these, its first tokens those. -/
structure GrewAt (B : List (List PV)) (T : List Bool) (L : List LoopS) (lo : Nat) (s : St) : Prop where
  bx : s.boxes = B
  lp : s.loops = L
  lw : s.low = lo
  tk : s.toks.take T.length = T
/-- A state of a function that was called in st and has laid no box. -/
abbrev Grew (st s : St) : Prop := GrewAt st.boxes st.toks st.loops st.boxes.length s

variable {B : List (List PV)} {T : List Bool} {L : List LoopS} {lo : Nat}
theorem GrewAt.len {s : St} (h : GrewAt B T L lo s) : T.length ≤ s.toks.length := by
  have := congrArg List.length h.tk
  simp at this; omega
theorem Grew.start {st : St} : Grew st { boxes := st.boxes, toks := st.toks, loops := st.loops, low := st.boxes.length } := ⟨rfl, rfl, rfl, by simp⟩
theorem GrewAt.start {ts : List Bool} : GrewAt B T L lo ⟨B, T ++ ts, L, lo⟩ := ⟨rfl, rfl, rfl, by simp⟩
/-- One more token. -/
def St.tok1 (s : St) : St := { s with toks := s.toks ++ [true] }
theorem GrewAt.tok1 {s : St} (h : GrewAt B T L lo s) : GrewAt B T L lo s.tok1 := ⟨h.bx, h.lp, h.lw, by
  show (s.toks ++ [true]).take T.length = T
  rw [List.take_append_of_le_length h.len]; exact h.tk⟩

/-- A slice that a function has made itself, or none. -/
def Own (st s : St) (esz : Nat) (v : PV) (xs : List PV) : Prop := (v = .nils ∧ xs = []) ∨ ∃ i, v = .sl esz (.own i) xs ∧ st.toks.length ≤ i ∧ s.toks[i]? = some true
def OwnB (st s : St) (v : PV) (l : List UInt8) : Prop := (v = .nils ∧ l = []) ∨ ∃ i, v = .bys (.own i) l ∧ st.toks.length ≤ i ∧ s.toks[i]? = some true

theorem Own.tok1 {st s : St} {esz : Nat} {v : PV} {xs : List PV} (h : Own st s esz v xs) : Own st s.tok1 esz v xs := by
  rcases h with h | ⟨i, h1, h2, h3⟩
  · exact .inl h
  · exact .inr ⟨i, h1, h2, by show (s.toks ++ [true])[i]? = some true; rw [List.getElem?_append_left (List.getElem?_eq_some_iff.1 h3).1]; exact h3⟩
theorem OwnB.tok1 {st s : St} {v : PV} {l : List UInt8} (h : OwnB st s v l) : OwnB st s.tok1 v l := by
  rcases h with h | ⟨i, h1, h2, h3⟩
  · exact .inl h
  · exact .inr ⟨i, h1, h2, by show (s.toks ++ [true])[i]? = some true; rw [List.getElem?_append_left (List.getElem?_eq_some_iff.1 h3).1]; exact h3⟩
theorem OwnB.by {st s : St} {v : PV} {l : List UInt8} (h : OwnB st s v l) : v.by = some l := by
  rcases h with ⟨rfl, rfl⟩ | ⟨i, rfl, _, _⟩ <;> rfl

/-- What append leaves of the tokens. -/
def appS (s : St) (v : PV) : St := match v with
  | .sl _ (.own i) _ => { s with toks := s.toks.set i false ++ [true] }
  | .bys (.own i) _ => { s with toks := s.toks.set i false ++ [true] }
  | _ => s.tok1
theorem appS_len {s : St} {v : PV} : (appS s v).toks.length = s.toks.length + 1 := by
  unfold appS; split <;> simp [St.tok1]

theorem appV_own {st s : St} {esz : Nat} {v u : PV} {xs : List PV} {t : Tok} (h : Own st s esz v xs) (hl : xs.length + 1 ≤ room) :
    appV esz s v (.sl esz t [u]) = some (.sl esz (.own s.toks.length) (xs ++ [u]), appS s v) := by
  rcases h with ⟨rfl, rfl⟩ | ⟨i, rfl, h2, h3⟩
  · simp [appV, srcV, freshT, room, appS, St.tok1]
  · simp [appV, srcV, freshT, appTok, appS, h3, hl]
theorem app8_ownS {st s : St} {v y : PV} {l m : List UInt8} (h : OwnB st s v l) (hy : src8 s y = some m) (hm : m ≠ []) (hl : l.length + m.length ≤ room) :
    app8 s v y = some (.bys (.own s.toks.length) (l ++ m), appS s v) := by
  rcases h with ⟨rfl, rfl⟩ | ⟨i, rfl, h2, h3⟩
  · simp at hl
    simp [app8, hy, hm, freshT, hl, appS, St.tok1]
  · simp [app8, hy, hm, freshT, appTok, appS, h3, hl]
theorem app8_own {st s : St} {v y : PV} {l m : List UInt8} (h : OwnB st s v l) (hy : y.by = some m) (hm : m ≠ []) (hl : l.length + m.length ≤ room) :
    app8 s v y = some (.bys (.own s.toks.length) (l ++ m), appS s v) := app8_ownS h (src8_by hy) hm hl
theorem app8_nil {s : St} {v y : PV} {l : List UInt8} (hv : v.by = some l) (hy : y.by = some []) : app8 s v y = some (v, s) := by
  rcases by_cases' hv with ⟨rfl, rfl⟩ | ⟨t, rfl⟩ <;> simp [app8, src8_by hy]

theorem Own.app {st s : St} {esz : Nat} {v : PV} {xs ys : List PV} (hg : GrewAt B st.toks L lo s) (h : Own st s esz v xs) : GrewAt B st.toks L lo (appS s v) ∧ Own st (appS s v) esz (.sl esz (.own s.toks.length) ys) ys := by
  have hlen := hg.len
  rcases h with ⟨rfl, rfl⟩ | ⟨i, rfl, h2, h3⟩
  · refine ⟨hg.tok1, .inr ⟨_, rfl, hlen, ?_⟩⟩
    simp [appS, St.tok1]
  · refine ⟨⟨hg.bx, hg.lp, hg.lw, ?_⟩, .inr ⟨_, rfl, hlen, ?_⟩⟩
    · show (s.toks.set i false ++ [true]).take st.toks.length = st.toks
      rw [List.take_append_of_le_length (by simpa using hlen), List.take_set_of_le h2]; exact hg.tk
    · show (s.toks.set i false ++ [true])[s.toks.length]? = some true
      rw [List.getElem?_append_right (by simp)]; simp
theorem OwnB.app {st s : St} {v : PV} {l m : List UInt8} (hg : GrewAt B st.toks L lo s) (h : OwnB st s v l) : GrewAt B st.toks L lo (appS s v) ∧ OwnB st (appS s v) (.bys (.own s.toks.length) m) m := by
  have hlen := hg.len
  rcases h with ⟨rfl, rfl⟩ | ⟨i, rfl, h2, h3⟩
  · refine ⟨hg.tok1, .inr ⟨_, rfl, hlen, ?_⟩⟩
    simp [appS, St.tok1]
  · refine ⟨⟨hg.bx, hg.lp, hg.lw, ?_⟩, .inr ⟨_, rfl, hlen, ?_⟩⟩
    · show (s.toks.set i false ++ [true]).take st.toks.length = st.toks
      rw [List.take_append_of_le_length (by simpa using hlen), List.take_set_of_le h2]; exact hg.tk
    · show (s.toks.set i false ++ [true])[s.toks.length]? = some true
      rw [List.getElem?_append_right (by simp)]; simp

/-- Bytes appended, whatever they are. -/
theorem app8_any {st s : St} {v y : PV} {l m : List UInt8} (hg : GrewAt B st.toks L lo s) (h : OwnB st s v l) (hy : y.by = some m) (hl : l.length + m.length ≤ room) :
    ∃ v' s', app8 s v y = some (v', s') ∧ GrewAt B st.toks L lo s' ∧ OwnB st s' v' (l ++ m) := by
  by_cases hm : m = []
  · subst hm
    exact ⟨v, s, app8_nil h.by hy, hg, by simpa using h⟩
  · obtain ⟨g2, o2⟩ := OwnB.app (m := l ++ m) hg h
    exact ⟨_, _, app8_own h hy hm hl, g2, o2⟩

/-- Bytes in a box of two's middle. -/
theorem GrewAt.loops {s : St} {L' : List LoopS} (h : GrewAt B T L lo s) : GrewAt B T L' lo { s with loops := L' } := ⟨h.bx, rfl, h.lw, h.tk⟩
theorem OwnB.loops {st s : St} {v : PV} {l : List UInt8} {L' : List LoopS} (h : OwnB st s v l) : OwnB st { s with loops := L' } v l := h
theorem store_own {st s : St} {v w : PV} {l : List UInt8} {c0 c2 : List PV} (hg : GrewAt (B ++ [c0, [w], c2]) T L lo s) (ho : OwnB st s v l) :
    ∃ lo' s', storePV s 1 (.ptr (B.length + 1) 0) v = some s' ∧ GrewAt (B ++ [c0, [v], c2]) T L lo' s' ∧ OwnB st s' v l ∧ (lo' = lo ∨ lo' = min lo (B.length + 1)) ∧ (v = .nils ∨ lo' ≤ B.length + 1) := by
  obtain ⟨bs, ts, ls, lo0⟩ := s
  obtain ⟨hb, hl, hw, ht⟩ := hg
  simp only at hb hl hw ht
  subst hb hl hw
  have hget : (B ++ [c0, [w], c2])[B.length + 1]? = some [w] := by
    rw [List.getElem?_append_right (by omega)]; simp
  have hset : ∀ u, (B ++ [c0, [w], c2]).set (B.length + 1) u = B ++ [c0, u, c2] := fun u => by
    rw [List.set_append_right _ _ (by omega)]; simp
  rcases ho with ⟨rfl, rfl⟩ | ⟨i, rfl, h2, h3⟩
  · refine ⟨lo0, ⟨B ++ [c0, [.nils], c2], ts, ls, lo0⟩, ?_, ⟨rfl, rfl, rfl, ht⟩, .inl ⟨rfl, rfl⟩, .inl rfl, .inl rfl⟩
    simp [storePV, hget, hset, PV.cells, PV.inB, leafOk, setCells, hasTok, tokOf]
  · refine ⟨min lo0 (B.length + 1), ⟨B ++ [c0, [.bys (.own i) l], c2], ts, ls, min lo0 (B.length + 1)⟩, ?_, ⟨rfl, rfl, rfl, ht⟩, .inr ⟨i, rfl, h2, h3⟩, .inr rfl, .inr (Nat.min_le_right _ _)⟩
    simp [storePV, hget, hset, PV.cells, PV.inB, leafOk, setCells, hasTok, tokOf]
theorem load_own {s : St} {w : PV} {c0 c2 : List PV} (hg : GrewAt (B ++ [c0, [w], c2]) T L lo s) : loadPV s false 1 (.ptr (B.length + 1) 0) = some w := by
  have hget : (B ++ [c0, [w], c2])[B.length + 1]? = some [w] := by
    rw [List.getElem?_append_right (by omega)]; simp
  simp [loadPV, hg.bx, hget, readCells]

/-- A slice of values, new to the caller. -/
def newSl (st : St) (esz : Nat) (xs : List PV) : PV := if xs = [] then .nils else .sl esz (.own st.toks.length) xs
def newB (st : St) (l : List UInt8) : PV := if l = [] then .nils else .bys (.own st.toks.length) l
def newS (st : St) (b : Bool) : St := if b then st else st.tok1
theorem newB_by {st : St} {l : List UInt8} : (newB st l).by = some l := by
  unfold newB; split
  · rename_i h; rw [h]; rfl
  · rfl

theorem Own.ne {st s : St} {esz : Nat} {v : PV} {xs : List PV} (h : Own st s esz v xs) (hne : v = .nils ↔ xs = []) : True := trivial

/-- A function's one result is what it has made. -/
theorem leave_own {st s : St} {esz : Nat} {v : PV} {xs : List PV} (hg : Grew st s) (h : Own st s esz v xs) (hne : xs = [] → v = .nils) : leave st s v = (newSl st esz xs, newS st xs.isEmpty) := by
  obtain ⟨hb, hl, hw, ht⟩ := hg
  obtain ⟨bs, ts, ls, lo⟩ := s
  simp only at hb hl hw ht
  subst hb hl hw
  rcases h with ⟨rfl, rfl⟩ | ⟨i, rfl, h2, h3⟩
  · simp [leave, PV.inB, keepRes, keepVal, keepLeaf, newSl, newS, ht]
  · by_cases hx : xs = []
    · have := hne hx; cases this
    · simp only at h3
      simp [leave, PV.inB, keepRes, keepVal, keepLeaf, keepTok, newSl, newS, hx, ht, h3, show ¬ i < st.toks.length by omega, St.tok1]
theorem leave_ownB {st s : St} {v : PV} {l : List UInt8} (hg : Grew st s) (h : OwnB st s v l) (hne : l = [] → v = .nils) : leave st s v = (newB st l, newS st l.isEmpty) := by
  obtain ⟨hb, hl, hw, ht⟩ := hg
  obtain ⟨bs, ts, ls, lo⟩ := s
  simp only at hb hl hw ht
  subst hb hl hw
  rcases h with ⟨rfl, rfl⟩ | ⟨i, rfl, h2, h3⟩
  · simp [leave, PV.inB, keepRes, keepVal, keepLeaf, newB, newS, ht]
  · by_cases hx : l = []
    · have := hne hx; cases this
    · simp only at h3
      simp [leave, PV.inB, keepRes, keepVal, keepLeaf, keepTok, newB, newS, hx, ht, h3, show ¬ i < st.toks.length by omega, St.tok1]
theorem lit1 {esz : Nat} {v u z : PV} (h : strip v = some u) (hc : u.cells.length = esz) : litFill esz (List.replicate 1 z) [(0, v)] = some [u] := by
  simp [litFill, h, hc]
/-- New bytes and a number are handed back. -/
theorem leave_ownB2 {st s : St} {v : PV} {l : List UInt8} {k : IntKind} {n : Int} {bs : List (List PV)} (hg : GrewAt (st.boxes ++ bs) st.toks st.loops st.boxes.length s) (h : OwnB st s v l) (hne : l ≠ []) :
    leave st s (.tup [v, .int k n]) = (.tup [.bys (.own st.toks.length) l, .int k n], st.tok1) := by
  obtain ⟨hb, hl, hw, ht⟩ := hg
  obtain ⟨b, ts, ls, lo⟩ := s
  simp only at hb hl hw ht
  subst hb hl hw
  rcases h with ⟨_, rfl⟩ | ⟨i, rfl, h2, h3⟩
  · exact absurd rfl hne
  · simp only at h3
    simp [leave, PV.inB, PV.inB.inBAll, keepRes, keepVals, keepVal, keepLeaf, keepTok, ht, h3, show ¬ i < st.toks.length by omega, St.tok1]
theorem freshT_eq {s : St} : freshT s = (.own s.toks.length, s.tok1) := rfl
theorem tok1_len {s : St} : s.tok1.toks.length = s.toks.length + 1 := by simp [St.tok1]

/-- A value of one cell. -/
def Leaf (v : PV) : Prop := v.cells = [v] ∧ leafOk v = true
theorem Leaf_by {x : PV} {l : List UInt8} (h : x.by = some l) : Leaf x := by
  rcases by_cases' h with ⟨rfl, rfl⟩ | ⟨t, rfl⟩ <;> exact ⟨rfl, rfl⟩
theorem Leaf_int {k : IntKind} {n : Int} : Leaf (.int k n) := ⟨rfl, rfl⟩
theorem Leaf_bool {b : Bool} : Leaf (.bool b) := ⟨rfl, rfl⟩
theorem Leaf_str {s : List UInt8} : Leaf (.str s) := ⟨rfl, rfl⟩
theorem build2 {z0 z1 v0 v1 : PV} (h0 : Leaf v0) (h1 : Leaf v1) : buildCells [z0, z1] [(0, 1, v0), (1, 1, v1)] = some [v0, v1] := by
  simp [buildCells, h0.1, h0.2, h1.1, h1.2, setCells]
theorem build3 {z0 z1 z2 v0 v1 v2 : PV} (h0 : Leaf v0) (h1 : Leaf v1) (h2 : Leaf v2) : buildCells [z0, z1, z2] [(0, 1, v0), (1, 1, v1), (2, 1, v2)] = some [v0, v1, v2] := by
  simp [buildCells, h0.1, h0.2, h1.1, h1.2, h2.1, h2.2, setCells]
end Go.Ab

/-
  Ranges over functions; memory that grows.
-/
namespace Go.Ab
set_option linter.unusedVariables false
set_option linter.unusedSimpArgs false
variable {A : AP} {st : St} {e : Env}

theorem W_rangeFunc {f : Opd} {ps : List Nat} {asg body : ACode} {fid : Nat} {caps : List PV} {fn : ACFn} {Q : Ex → Env → St → Prop} (hf : f.ev e = .fn fid caps) (hA : A fid = some (.code fn))
    (h : ∃ v s1 r, call A (.fn fid caps) [.yld st.loops.length] { st with loops := st.loops ++ [recOf e ps asg body] } = some (v, s1) ∧ s1.loops[st.loops.length]? = some r ∧ r.status ≠ 1 ∧ Q r.pend e { s1 with loops := s1.loops.take st.loops.length }) :
    W A (.rangeFunc f ps asg body) e st Q := by
  obtain ⟨v, s1, r, h1, h2, h3, h4⟩ := h
  refine ⟨(r.pend, e, { s1 with loops := s1.loops.take st.loops.length }), ?_, h4⟩
  rw [ex_rangeFunc hf hA, h1]
  simp only [h2, h3, if_false]

/-- What is asked where a round ends. -/
def roundQ (k : Nat) (K : Bool → St → Prop) : Ex → Env → St → Prop := fun x _ s2 => ∃ r2, s2.loops[k]? = some r2 ∧ K (decide (x = .normal)) { s2 with loops := s2.loops.set k { r2 with status := if x = .normal then 0 else 2, pend := x } }

theorem yld_of_W {k : Nat} {args : List PV} {r : LoopS} {e1 : Env} {K : Bool → St → Prop} (hr : st.loops[k]? = some r) (hs : r.status = 0) (hl : args.length = r.params.length)
    (ha : ex A r.assign (updAll r.env r.params args) st = some (.normal, e1, st))
    (hb : W A r.body e1 { st with loops := st.loops.set k { r with status := 1 } } (roundQ k K)) : ∃ b s', call A (.yld k) args st = some (.bool b, s') ∧ K b s' := by
  obtain ⟨⟨x, e2, s2⟩, h1, r2, h2, h3⟩ := hb
  refine ⟨decide (x = .normal), _, ?_, h3⟩
  rw [call_yld hr hs hl, ha]
  simp only [hr, hs, if_true]
  rw [h1]
  simp only at h2 ⊢
  rw [h2]

theorem ex_of_W {c : ACode} {E : Env} {S : St} {x : Ex} (h : W A c e st (fun x' e' s' => x' = x ∧ e' = E ∧ s' = S)) : ex A c e st = some (x, E, S) := by
  obtain ⟨⟨x', e', s'⟩, h1, rfl, rfl, rfl⟩ := h
  exact h1
theorem tok1_mk {b : List (List PV)} {t : List Bool} {l : List LoopS} {lo : Nat} : St.tok1 ⟨b, t, l, lo⟩ = ⟨b, t ++ [true], l, lo⟩ := rfl

/-! ### Lists that have grown -/
theorem get_app {α : Type} {l r : List α} {k : Nat} : (l ++ r)[l.length + k]? = r[k]? := by
  rw [List.getElem?_append_right (by omega)]; congr 1; omega
theorem get_app0 {α : Type} {l r : List α} {a : α} : (l ++ a :: r)[l.length]? = some a := by simp
theorem set_app {α : Type} {l r : List α} {k : Nat} {v : α} : (l ++ r).set (l.length + k) v = l ++ r.set k v := by
  rw [List.set_append_right _ _ (by omega)]; congr 2; omega
theorem set_app0 {α : Type} {l r : List α} {a v : α} : (l ++ a :: r).set l.length v = l ++ v :: r := by
  have := set_app (l := l) (r := a :: r) (k := 0) (v := v)
  simp only [Nat.add_zero, List.set_cons_zero] at this; exact this

theorem tokLt_mono {x : PV} {n m : Nat} (h : x.tokLt n = true) (hnm : n ≤ m) : x.tokLt m = true := by
  cases x with
  | bys t l => cases t <;> simp_all [PV.tokLt, Tok.lt]; omega
  | sl e t l => cases t <;> simp_all [PV.tokLt, Tok.lt]; omega
  | _ => rfl
/-! ### Slices of values -/
def PV.vs (esz : Nat) : PV → Option (List PV)
  | .nils => some []
  | .sl e _ xs => if e = esz then some xs else none
  | _ => none
theorem vs_cases {esz : Nat} {x : PV} {xs : List PV} (h : x.vs esz = some xs) : (x = .nils ∧ xs = []) ∨ ∃ t, x = .sl esz t xs := by
  cases x <;> simp [PV.vs] at h
  · exact .inl ⟨rfl, h⟩
  · obtain ⟨rfl, rfl⟩ := h; exact .inr ⟨_, rfl⟩
theorem len_vs {esz : Nat} {x : PV} {xs : List PV} (h : x.vs esz = some xs) : lenPV false x = some (.int .i64 (xs.length : Int)) := by
  rcases vs_cases h with ⟨rfl, rfl⟩ | ⟨t, rfl⟩ <;> rfl
theorem iaddr_vs {esz : Nat} {x : PV} {xs : List PV} {k : IntKind} {c : Int} (h : x.vs esz = some xs) (h1 : 0 ≤ c) (h2 : c.toNat < xs.length) : iaddrPV esz x (.int k c) = some (.cp (xs.getD c.toNat .undef).cells) := by
  rcases vs_cases h with ⟨rfl, rfl⟩ | ⟨t, rfl⟩
  · simp at h2
  · simp [iaddrPV, intOf, h1, show c < xs.length by omega]
theorem newSl_vs {esz : Nat} {xs : List PV} : (newSl st esz xs).vs esz = some xs := by
  unfold newSl; split
  · rename_i h; rw [h]; rfl
  · simp [PV.vs]
theorem newS_eq {b : List (List PV)} {t : List Bool} {l : List LoopS} {lo : Nat} {c : Bool} : newS ⟨b, t, l, lo⟩ c = ⟨b, t ++ (if c then [] else [true]), l, lo⟩ := by
  cases c <;> simp [newS, St.tok1]

/-- Boxes and tokens of its own are gone behind a call that hands back plain values. -/
theorem leave_gone {v : PV} {bs : List (List PV)} {ts : List Bool} (h1 : v.inB st.boxes.length = true) (h3 : keepRes st.toks.length (st.toks ++ ts) v = (v, [])) :
    leave st ⟨st.boxes ++ bs, st.toks ++ ts, st.loops, st.boxes.length⟩ v = (v, st) := by
  simp [leave, h1, h3]
theorem leave_gone0 {v : PV} {bs : List (List PV)} (h1 : v.inB st.boxes.length = true) (h3 : keepRes st.toks.length (st.toks ++ []) v = (v, [])) :
    leave st ⟨st.boxes ++ bs, st.toks, st.loops, st.boxes.length⟩ v = (v, st) := by
  have := leave_gone (bs := bs) h1 h3
  simpa using this
end Go.Ab

/-
  Cuts in code; slices that live on in boxes.
-/
namespace Go.Ab
set_option linter.unusedVariables false
set_option linter.unusedSimpArgs false
variable {A : AP} {st : St} {e : Env}

/-- Code in two: what is known between. -/
theorem W_cut {a b : ACode} {Q : Ex → Env → St → Prop} (M : Env → St → Prop) (h1 : W A a e st (fun x e' s' => x = .normal ∧ M e' s')) (h2 : ∀ e' s', M e' s' → W A b e' s' Q) : W A (.seq a b) e st Q := by
  rw [W_seq]
  refine W_mono h1 ?_
  rintro x e s ⟨rfl, h⟩
  exact h2 e s h

/-- A law's call: its one result is true. -/
theorem law_of_W {f k : Nat} {args : List PV} {fn : ACFn} (hA : A f = some (.code fn)) (hr : fn.results = [.tmp k])
    (h : W A fn.body (env0 args) { st with low := st.boxes.length } (fun x e _ => (x = .normal ∨ x = .ret) ∧ e k = .bool true)) : ∃ s', call A (.fn f []) args st = some (.bool true, s') := by
  obtain ⟨⟨x, e1, st1⟩, h1, h2, h3⟩ := h
  simp only at h2 h3
  have hl : ∃ s', leave st st1 (.bool true) = (.bool true, s') := by
    unfold leave
    simp only [PV.inB, if_true]
    split
    · exact ⟨_, rfl⟩
    · exact ⟨_, rfl⟩
  obtain ⟨s', hl⟩ := hl
  refine ⟨s', ?_⟩
  have hres : resOf e1 st1 fn.results = some (.bool true) := by rw [hr]; simp [resOf, rvAll, rv1, h3, notTup, packRes]
  refine call_of_W hA ⟨(x, e1, st1), by rw [List.append_nil]; exact h1, h2, .bool true, hres, hl⟩

/-- A slice whose room is its own, or none. -/
def Live (s : St) (v : PV) (l : List UInt8) : Prop := (v = .nils ∧ l = []) ∨ ∃ i, v = .bys (.own i) l ∧ s.toks[i]? = some true
theorem Live.by {s : St} {v : PV} {l : List UInt8} (h : Live s v l) : v.by = some l := by
  rcases h with ⟨rfl, rfl⟩ | ⟨i, rfl, _⟩ <;> rfl
theorem Live.lt {s : St} {v : PV} {l : List UInt8} (h : Live s v l) {i : Nat} (hi : tokOf v = some i) : i < s.toks.length ∧ s.toks[i]? = some true := by
  rcases h with ⟨rfl, rfl⟩ | ⟨j, rfl, hj⟩
  · cases hi
  · simp only [tokOf, Option.some.injEq] at hi
    subst hi
    exact ⟨(List.getElem?_eq_some_iff.1 hj).1, hj⟩
theorem Live.tokLt {s : St} {v : PV} {l : List UInt8} (h : Live s v l) : v.tokLt s.toks.length = true := by
  rcases h with ⟨rfl, rfl⟩ | ⟨j, rfl, hj⟩
  · rfl
  · simp [PV.tokLt, Tok.lt, (List.getElem?_eq_some_iff.1 hj).1]
theorem Live.move {s s' : St} {v : PV} {l : List UInt8} (h : Live s v l) (ht : ∀ i, tokOf v = some i → s'.toks[i]? = s.toks[i]?) : Live s' v l := by
  rcases h with h | ⟨j, rfl, hj⟩
  · exact .inl h
  · exact .inr ⟨j, rfl, by rw [ht j rfl]; exact hj⟩
theorem Live.tok1 {s : St} {v : PV} {l : List UInt8} (h : Live s v l) : Live s.tok1 v l := h.move fun i hi => by
  show (s.toks ++ [true])[i]? = _
  rw [List.getElem?_append_left (h.lt hi).1]

theorem app8_live {s : St} {v y : PV} {l m : List UInt8} (h : Live s v l) (hy : src8 s y = some m) (hl : l.length + m.length ≤ room) :
    ∃ v' s', app8 s v y = some (v', s') ∧ s'.boxes = s.boxes ∧ s'.loops = s.loops ∧ s'.low = s.low ∧ Live s' v' (l ++ m) ∧ s.toks.length ≤ s'.toks.length ∧
      (∀ i, i < s.toks.length → tokOf v ≠ some i → s'.toks[i]? = s.toks[i]?) ∧ (∀ i, tokOf v' = some i → (tokOf v = some i ∧ s' = s) ∨ s.toks.length ≤ i) ∧ (m ≠ [] → tokOf v' = some s.toks.length) := by
  by_cases hm : m = []
  · subst hm
    refine ⟨v, s, ?_, rfl, rfl, rfl, by simpa using h, Nat.le_refl _, fun _ _ _ => rfl, fun i hi => .inl ⟨hi, rfl⟩, fun h => absurd rfl h⟩
    rcases h with ⟨rfl, rfl⟩ | ⟨j, rfl, hj⟩ <;> simp [app8, hy]
  · rcases h with ⟨rfl, rfl⟩ | ⟨j, rfl, hj⟩
    · simp at hl
      refine ⟨.bys (.own s.toks.length) m, s.tok1, by simp [app8, hy, hm, freshT, hl, St.tok1], rfl, rfl, rfl, .inr ⟨_, rfl, by simp [St.tok1]⟩, by simp [St.tok1], fun i hi _ => ?_, fun i hi => .inr ?_, fun _ => rfl⟩
      · show (s.toks ++ [true])[i]? = _
        rw [List.getElem?_append_left hi]
      · simp only [tokOf, Option.some.injEq] at hi; omega
    · refine ⟨.bys (.own s.toks.length) (l ++ m), ⟨s.boxes, s.toks.set j false ++ [true], s.loops, s.low⟩, by simp [app8, hy, hm, freshT, appTok, hj, hl], rfl, rfl, rfl, .inr ⟨_, rfl, by simp [List.getElem?_append_right]⟩, by simp, fun i hi hne => ?_, fun i hi => .inr ?_, fun _ => rfl⟩
      · show (s.toks.set j false ++ [true])[i]? = _
        rw [List.getElem?_append_left (by simpa using hi), List.getElem?_set_ne (fun h => hne (by rw [h]; rfl))]
      · simp only [tokOf, Option.some.injEq] at hi; omega
end Go.Ab
namespace Go.Ab
variable {A : AP} {st : St} {e : Env}
/-- A temporary is set under a condition: one way goes on. -/
def joinc (_A : AP) (x : PV) (d : Nat) (v : PV) (e : Env) (st : St) (Q : Ex → Env → St → Prop) : Prop := match x with
  | .bool t => Q .normal (upd e d (if t then v else e d)) st
  | _ => False
theorem joinc_bool {t : Bool} {d : Nat} {v : PV} {Q : Ex → Env → St → Prop} : joinc A (.bool t) d v e st Q = Q .normal (upd e d (if t then v else e d)) st := rfl
theorem W_joinc {c : Opd} {d : Nat} {v : PV} {Q : Ex → Env → St → Prop} : W A (.cond c (.region [⟨some d, .mov (.const v), none⟩]) .skip) e st Q = joinc A (c.ev e) d v e st Q := by
  rw [W_cond]
  cases hc : c.ev e with
  | bool t =>
    rw [condW_bool, joinc_bool]
    cases t with
    | true =>
      rw [if_pos rfl, W_region, WO_cons]
      simp [evOp, WN_some, WO_nil, ev_const, updO]
    | false =>
      rw [if_neg (by simp), W_skip]
      have : upd e d (e d) = e := by funext t; simp [upd]; intro h; rw [h]
      simp [this]
  | _ => simp [condW, joinc]
end Go.Ab

/-
  strings.Builder: what is written, and its text.
-/
namespace Go.Ab
set_option linter.unusedVariables false
set_option linter.unusedSimpArgs false
variable {P : St → Prop} {st : St} {e : Env} {s s' : St} {b : Nat} {x : PV} {l : List UInt8}

/-- A Builder in a box. -/
structure Bu (s : St) (b : Nat) (x : PV) (l : List UInt8) : Prop where
  bx : s.boxes[b]? = some [.bslot, x] ∨ s.boxes[b]? = some [.ptr b 0, x]
  lv : Live s x l

/-- What a write leaves. -/
structure BuStep (s s' : St) (b : Nat) (x x' : PV) (l' : List UInt8) : Prop where
  bx : s'.boxes = s.boxes.set b [.ptr b 0, x']
  lv : Live s' x' l'
  lp : s'.loops = s.loops
  tl : s.toks.length ≤ s'.toks.length
  tk : ∀ i, i < s.toks.length → tokOf x ≠ some i → s'.toks[i]? = s.toks[i]?
  tn : ∀ i, tokOf x' = some i → tokOf x = some i ∨ s.toks.length ≤ i
  lw : min s.low b ≤ s'.low

theorem Bu.lt (h : Bu s b x l) : b < s.boxes.length := by
  rcases h.bx with h | h <;> exact (List.getElem?_eq_some_iff.1 h).1
theorem BuStep.bu {x' : PV} {l' : List UInt8} (h : BuStep s s' b x x' l') (hb : b < s.boxes.length) : Bu s' b x' l' :=
  ⟨.inr (by rw [h.bx, List.getElem?_set_self hb]), h.lv⟩

theorem copyCheck_spec (h : Bu s b x l) : ∃ s1, primS pCopyCheck [.ptr b 0] s = some (.tup [], s1) ∧ s1 = { s with boxes := s.boxes.set b [.ptr b 0, x] } := by
  rcases h.bx with h1 | h1
  · refine ⟨_, ?_, rfl⟩
    simp [primS, pCopyCheck, h1, updS, storePV, PV.cells, PV.inB, leafOk, hasTok, tokOf, setCells]
  · refine ⟨_, ?_, rfl⟩
    have : s.boxes.set b [.ptr b 0, x] = s.boxes := by
      obtain ⟨q, r⟩ := List.getElem?_eq_some_iff.1 h1
      rw [← r]; simp
    rw [this]
    simp [primS, pCopyCheck, h1, updS]

/-- The core of a write: m is put behind; s was the caller's state, s0 is the callee's, with more tokens. -/
theorem bu_app {y : PV} {m : List UInt8} {s0 : St} (h : Live s x l) (hb : b < s.boxes.length) (hbx : s0.boxes = s.boxes.set b [.ptr b 0, x]) (hlp : s0.loops = s.loops) (htl : s.toks.length ≤ s0.toks.length) (htk : ∀ i, i < s.toks.length → s0.toks[i]? = s.toks[i]?)
    (hy : src8 s0 y = some m) (hl : l.length + m.length ≤ room) (hlow : s0.low = s.boxes.length) :
    ∃ x' s1 s2, app8 s0 x y = some (x', s1) ∧ storePV s1 1 (.ptr b 1) x' = some s2 ∧ ∀ v : PV, v.inB s.boxes.length = true → (∀ n toks, keepRes n toks v = (v, [])) → ∃ s', leave s s2 v = (v, s') ∧ BuStep s s' b x x' (l ++ m) := by
  obtain ⟨x', s1, a1, a2, a3, a4, a5, a6, a7, a8, a9⟩ := app8_live (h.move (s' := s0) fun i hi => htk i (h.lt hi).1) hy hl
  have hg : s1.boxes[b]? = some [.ptr b 0, x] := by rw [a2, hbx, List.getElem?_set_self hb]
  have hcell : x'.cells = [x'] ∧ leafOk x' = true ∧ x'.inB (b + 1) = true := by
    rcases a5 with ⟨rfl, _⟩ | ⟨i, rfl, _⟩ <;> exact ⟨rfl, rfl, rfl⟩
  have hst : storePV s1 1 (.ptr b 1) x' = some { s1 with boxes := s1.boxes.set b [.ptr b 0, x'], low := if hasTok [x'] then min s1.low b else s1.low } := by
    simp [storePV, hg, hcell.1, hcell.2.1, hcell.2.2, setCells]
  refine ⟨x', s1, _, a1, hst, fun v hv hk => ?_⟩
  have htake : (s1.boxes.set b [.ptr b 0, x']).take s.boxes.length = s.boxes.set b [.ptr b 0, x'] := by
    rw [a2, hbx, List.set_set]; apply List.take_of_length_le; simp
  have hkeep : ∀ i, i < s.toks.length → tokOf x ≠ some i → s1.toks[i]? = s.toks[i]? := fun i hi hne => by
    rw [a7 i (by omega) hne, htk i hi]
  cases ht : hasTok [x'] with
  | true =>
    have hlt : ¬ s.boxes.length ≤ min s1.low b := by omega
    refine ⟨{ boxes := s.boxes.set b [.ptr b 0, x'], toks := s1.toks, loops := s1.loops, low := min s.low (min s1.low b) }, ?_, ⟨rfl, a5, a3.trans hlp, by show s.toks.length ≤ s1.toks.length; omega, hkeep, fun i hi => ?_, ?_⟩⟩
    · simp [leave, hv, hlt, htake]
    · rcases a8 i hi with ⟨h1, _⟩ | h1
      · exact .inl h1
      · exact .inr (by omega)
    · show min s.low b ≤ min s.low (min s1.low b)
      rw [a4, hlow]; omega
  | false =>
    -- nothing that lives was stored
    have hx' : x' = .nils := by
      rcases a5 with ⟨rfl, _⟩ | ⟨i, rfl, _⟩
      · rfl
      · simp [hasTok, tokOf] at ht
    have hle : s.boxes.length ≤ s1.low := by rw [a4, hlow]; exact Nat.le_refl _
    refine ⟨{ boxes := s.boxes.set b [.ptr b 0, x'], toks := s1.toks.take s.toks.length, loops := s1.loops, low := s.low }, ?_, ⟨rfl, ?_, a3.trans hlp, ?_, fun i hi hne => ?_, fun i hi => (by rw [hx'] at hi; cases hi), ?_⟩⟩
    · simp [leave, hv, hle, htake, hk]
    · rcases a5 with ⟨h1, h2⟩ | ⟨i, h1, _⟩
      · exact .inl ⟨h1, h2⟩
      · rw [hx'] at h1; cases h1
    · simp; omega
    · show (s1.toks.take s.toks.length)[i]? = _
      rw [List.getElem?_take, if_pos hi]; exact hkeep i hi hne
    · show min s.low b ≤ s.low
      omega

theorem WriteByte_spec {c : UInt8} (h : Bu s b x l) (hl : l.length + 1 ≤ room) : ∃ x' s', call prog (.fn 57 []) [.ptr b 0, .b8 c] s = some (.nili, s') ∧ BuStep s s' b x x' (l ++ [c]) := by
  have hlt := h.lt
  obtain ⟨s1, c1, c2⟩ := copyCheck_spec (s := { s with low := s.boxes.length }) ⟨h.bx, h.lv.move fun _ _ => rfl⟩
  have hlit : lit8Fill (List.replicate 1 0) [(0, .b8 c)] = some [c] := rfl
  have ld : loadPV s1 false 1 (.ptr b 1) = some x := by simp [c2, loadPV, hlt, readCells]
  obtain ⟨x', s2, s3, a1, a2, a3⟩ := bu_app (s := s) (s0 := s1.tok1) (b := b) (y := .bys (.own s1.toks.length) [c]) (m := [c]) h.lv hlt (by rw [c2]; rfl) (by rw [c2]; rfl) (by rw [c2]; simp [St.tok1]) (fun i hi => by
    rw [c2]; show (s.toks ++ [true])[i]? = _
    rw [List.getElem?_append_left hi]) rfl (by simpa using hl) (by rw [c2]; rfl)
  obtain ⟨s', k1, k2⟩ := a3 .nili rfl (fun _ _ => rfl)
  refine ⟨x', s', call_of_W prog_57 ?_, k2⟩
  unfold F_P_strings_Builder_WriteByte; dsimp only
  have c1' : call prog (.fn 73 []) [.ptr b 0] { boxes := s.boxes, toks := s.toks, loops := s.loops, low := s.boxes.length } = some (.tup [], s1) := by
    rw [call_primS prog_73]; exact c1
  simp (maxSteps := 1000000) (disch := omega) only [c1', faddrPV, Nat.zero_add, ld, hlit, freshT_eq, a1, a2, W_seq, W_region, W_cond, W_block, W_skip, W_label, W_exit, W_goto, W_ret, WO_cons, WO_consG, WO_nil, wantedA_eq, wantB, evOp, ev_tmp, ev_const, ev_fn, WN_some, WN_none, updO_some, updO_none, upd_eq,
 ↓reduceIte, Nat.reduceEqDiff, List.nil_append, List.cons_append, List.append_nil, List.map_cons, List.map_nil, env0_zero, env0_succ, env0_nil, Option.map_some, Option.map_none, seqQ_normal, seqQ_ret, seqQ_exit, seqQ_goto, blockQ_normal, blockQ_ret, blockQ_exit, blockQ_goto, condW_bool, loopQ_ret, loopQ_exit, loopQ_goto, endQ_ret, endQ_normal,
 lss_i, leq_i, gtr_i, geq_i, eql_i, neq_i, eql_8, neq_8, lss_8, leq_8, gtr_8, geq_8, eql_s, neq_s, eql_b, neq_b, not_b, by_bys, by_nils, load_cp1, beq_true, beq_false, Bool.not_eq_true', decide_eq_true_eq, decide_eq_false_iff_not, decide_true, decide_false,
 Int.toNat_natCast, Int.ofNat_lt, Int.ofNat_le, Int.natCast_inj, Bool.false_eq_true, Bool.true_eq_false, extPV, List.getElem?_cons_zero, List.getElem?_cons_succ, nilckPV, Int.reduceToNat, Int.reduceLE, true_and, and_true, reduceCtorEq, or_false, false_or, or_true, Option.some.injEq, exists_eq_left', Bool.not_true, Bool.not_false, ne_eq, Int.reduceEq, not_true_eq_false, not_false_eq_true, Int.reduceLT, UInt8.reduceLT, UInt8.reduceLE, UInt8.reduceToNat]
  exact ⟨.nili, rfl, k1⟩

theorem WriteString_spec {m : List UInt8} (h : Bu s b x l) (hl : l.length + m.length ≤ room) : ∃ x' s', call prog (.fn 58 []) [.ptr b 0, .str m] s = some (.tup [.int .i64 (m.length : Int), .nili], s') ∧ BuStep s s' b x x' (l ++ m) := by
  have hlt := h.lt
  obtain ⟨s1, c1, c2⟩ := copyCheck_spec (s := { s with low := s.boxes.length }) ⟨h.bx, h.lv.move fun _ _ => rfl⟩
  have ld : loadPV s1 false 1 (.ptr b 1) = some x := by simp [c2, loadPV, hlt, readCells]
  obtain ⟨x', s2, s3, a1, a2, a3⟩ := bu_app (s := s) (s0 := s1) (b := b) (y := .str m) (m := m) h.lv hlt (by rw [c2]) (by rw [c2]) (by rw [c2]; exact Nat.le_refl _) (fun i hi => by rw [c2]) rfl hl (by rw [c2])
  obtain ⟨s', k1, k2⟩ := a3 (.tup [.int .i64 (m.length : Int), .nili]) rfl (fun _ _ => rfl)
  refine ⟨x', s', call_of_W prog_58 ?_, k2⟩
  unfold F_P_strings_Builder_WriteString; dsimp only
  have c1' : call prog (.fn 73 []) [.ptr b 0] { boxes := s.boxes, toks := s.toks, loops := s.loops, low := s.boxes.length } = some (.tup [], s1) := by
    rw [call_primS prog_73]; exact c1
  have hlen : lenPV true (.str m) = some (.int .i64 (m.length : Int)) := rfl
  simp (maxSteps := 1000000) (disch := omega) only [c1', faddrPV, Nat.zero_add, ld, a1, a2, hlen, W_seq, W_region, W_cond, W_block, W_skip, W_label, W_exit, W_goto, W_ret, WO_cons, WO_consG, WO_nil, wantedA_eq, wantB, evOp, ev_tmp, ev_const, ev_fn, WN_some, WN_none, updO_some, updO_none, upd_eq,
 ↓reduceIte, Nat.reduceEqDiff, List.nil_append, List.cons_append, List.append_nil, List.map_cons, List.map_nil, env0_zero, env0_succ, env0_nil, Option.map_some, Option.map_none, seqQ_normal, seqQ_ret, seqQ_exit, seqQ_goto, blockQ_normal, blockQ_ret, blockQ_exit, blockQ_goto, condW_bool, loopQ_ret, loopQ_exit, loopQ_goto, endQ_ret, endQ_normal,
 lss_i, leq_i, gtr_i, geq_i, eql_i, neq_i, eql_8, neq_8, lss_8, leq_8, gtr_8, geq_8, eql_s, neq_s, eql_b, neq_b, not_b, by_bys, by_nils, load_cp1, beq_true, beq_false, Bool.not_eq_true', decide_eq_true_eq, decide_eq_false_iff_not, decide_true, decide_false,
 Int.toNat_natCast, Int.ofNat_lt, Int.ofNat_le, Int.natCast_inj, Bool.false_eq_true, Bool.true_eq_false, extPV, List.getElem?_cons_zero, List.getElem?_cons_succ, nilckPV, Int.reduceToNat, Int.reduceLE, true_and, and_true, reduceCtorEq, or_false, false_or, or_true, Option.some.injEq, exists_eq_left', Bool.not_true, Bool.not_false, ne_eq, Int.reduceEq, not_true_eq_false, not_false_eq_true, Int.reduceLT, UInt8.reduceLT, UInt8.reduceLE, UInt8.reduceToNat]
  exact ⟨.tup [.int .i64 (m.length : Int), .nili], rfl, k1⟩

/-- The text; the room behind it is nobody's more. -/
theorem BString_spec (h : Bu s b x l) (hn : l = [] → x = .nils) (hr : l.length ≤ room) : ∃ s', call prog (.fn 59 []) [.ptr b 0] s = some (.str l, s') ∧ s'.boxes = s.boxes ∧ s'.loops = s.loops ∧ s'.low = s.low ∧ s'.toks.length = s.toks.length ∧ ∀ i, tokOf x ≠ some i → s'.toks[i]? = s.toks[i]? := by
  rw [call_primS prog_59]
  rcases h.lv with ⟨rfl, rfl⟩ | ⟨i, rfl, hi⟩
  · refine ⟨s, ?_, rfl, rfl, rfl, rfl, fun _ _ => rfl⟩
    rcases h.bx with h1 | h1 <;> simp [primS, pBuilderString, h1, updS]
  · have hl : l ≠ [] := fun h => by have := hn h; cases this
    refine ⟨{ s with toks := s.toks.set i false }, ?_, rfl, rfl, rfl, by simp, fun j hj => ?_⟩
    · rcases h.bx with h1 | h1 <;> simp [primS, pBuilderString, h1, hl, updS, hi, show ¬ room < l.length by omega]
    · rw [List.getElem?_set_ne (fun h => hj (by rw [h]; rfl))]

/-! ### A function's state that keeps what its caller has -/
structure Kept (st s : St) : Prop where
  bx : s.boxes.take st.boxes.length = st.boxes
  lp : s.loops = st.loops
  lw : st.boxes.length ≤ s.low
  tk : s.toks.take st.toks.length = st.toks

theorem Kept.start : Kept st { boxes := st.boxes, toks := st.toks, loops := st.loops, low := st.boxes.length } := ⟨by simp, rfl, Nat.le_refl _, by simp⟩
theorem Kept.bl (h : Kept st s) : st.boxes.length ≤ s.boxes.length := by
  have := congrArg List.length h.bx
  simp at this; omega
theorem Kept.tl (h : Kept st s) : st.toks.length ≤ s.toks.length := by
  have := congrArg List.length h.tk
  simp at this; omega
theorem Kept.get (h : Kept st s) {i : Nat} (hi : i < st.toks.length) : s.toks[i]? = st.toks[i]? := by
  have := congrArg (fun z => z[i]?) h.tk
  simpa [List.getElem?_take, hi] using this
theorem Kept.of {s' : St} (h : Kept st s) (hb : s'.boxes.take st.boxes.length = s.boxes.take st.boxes.length) (hl : s'.loops = s.loops) (hw : st.boxes.length ≤ s'.low) (ht : ∀ i, i < st.toks.length → s'.toks[i]? = s.toks[i]?) (hn : st.toks.length ≤ s'.toks.length) : Kept st s' :=
  ⟨hb.trans h.bx, hl.trans h.lp, hw, by
    apply List.ext_getElem?
    intro i
    rw [List.getElem?_take]
    split
    · rename_i hi
      rw [ht i hi, h.get hi]
    · rename_i hi
      rw [List.getElem?_eq_none (by omega)]⟩
theorem Kept.tok1 (h : Kept st s) : Kept st s.tok1 := h.of rfl rfl h.lw (fun i hi => by
  show (s.toks ++ [true])[i]? = _
  rw [List.getElem?_append_left (by have := h.tl; omega)]) (by have := h.tl; simp [St.tok1]; omega)
theorem Kept.leave (h : Kept st s) {v : PV} (h1 : v.inB st.boxes.length = true) (h2 : ∀ n toks, keepRes n toks v = (v, [])) : leave st s v = (v, st) := by
  have e1 := h.bx; have e2 := h.lp; have e3 := h.tk
  simp [Ab.leave, h1, h.lw, h2, e1, e2, e3]
theorem Kept.alloc {z : List PV} (h : Kept st s) : Kept st { s with boxes := s.boxes ++ [z] } := h.of (by
  have := h.bl
  rw [List.take_append_of_le_length this]) rfl h.lw (fun _ _ => rfl) h.tl
/-- A Builder of one's own is written. -/
theorem Kept.step {x' : PV} {l' : List UInt8} (h : Kept st s) (hs : BuStep s s' b x x' l') (hb : st.boxes.length ≤ b) (hm : ∀ i, tokOf x = some i → st.toks.length ≤ i) : Kept st s' ∧ ∀ i, tokOf x' = some i → st.toks.length ≤ i := by
  have htl := h.tl
  refine ⟨h.of ?_ hs.lp (by have := hs.lw; have := h.lw; omega) (fun i hi => hs.tk i (by omega) fun hh => by have := hm i hh; omega) (by have := hs.tl; omega), fun i hi => ?_⟩
  · rw [hs.bx, List.take_set_of_le hb]
  · rcases hs.tn i hi with h1 | h1
    · exact hm i h1
    · omega

theorem Kept.string (h : Kept st s) (hs : ∃ s', P s' ∧ s'.boxes = s.boxes ∧ s'.loops = s.loops ∧ s'.low = s.low ∧ s'.toks.length = s.toks.length ∧ ∀ i, tokOf x ≠ some i → s'.toks[i]? = s.toks[i]?) (hm : ∀ i, tokOf x = some i → st.toks.length ≤ i) : ∃ s', P s' ∧ Kept st s' := by
  obtain ⟨s', h0, h1, h2, h3, h4, h5⟩ := hs
  exact ⟨s', h0, h.of (by rw [h1]) h2 (by rw [h3]; exact h.lw) (fun i hi => h5 i fun hh => by have := hm i hh; omega) (by rw [h4]; exact h.tl)⟩

/-- A slice of one's own. -/
def Mine (st s : St) (v : PV) (l : List UInt8) : Prop := Live s v l ∧ ∀ t, tokOf v = some t → st.toks.length ≤ t
theorem Mine.nil : Mine st s .nils [] := ⟨.inl ⟨rfl, rfl⟩, fun t h => (by cases h)⟩
theorem Mine.by {v : PV} (h : Mine st s v l) : v.by = some l := h.1.by
theorem Mine.tok1 {v : PV} (h : Mine st s v l) : Mine st s.tok1 v l := ⟨h.1.tok1, h.2⟩
theorem Kept.app8 {v y : PV} {m : List UInt8} (hk : Kept st s) (h : Mine st s v l) (hy : src8 s y = some m) (hl : l.length + m.length ≤ room) :
    ∃ v' s', Ab.app8 s v y = some (v', s') ∧ Kept st s' ∧ Mine st s' v' (l ++ m) := by
  obtain ⟨v', s', a1, a2, a3, a4, a5, a6, a7, a8, a9⟩ := app8_live h.1 hy hl
  have htl := hk.tl
  refine ⟨v', s', a1, hk.of (by rw [a2]) a3 (by rw [a4]; exact hk.lw) (fun i hi => a7 i (by omega) fun hh => by have := h.2 i hh; omega) (by omega), a5, fun t ht => ?_⟩
  rcases a8 t ht with ⟨h1, _⟩ | h1
  · exact h.2 t h1
  · omega
/-- One byte more. -/
theorem Kept.push {v : PV} {c : UInt8} (hk : Kept st s) (h : Mine st s v l) (hl : l.length + 1 ≤ room) :
    ∃ v' s', Ab.app8 s.tok1 v (.bys (.own s.toks.length) [c]) = some (v', s') ∧ Kept st s' ∧ Mine st s' v' (l ++ [c]) :=
  hk.tok1.app8 h.tok1 rfl (by simpa using hl)
theorem Kept.push2 {v : PV} {c d : UInt8} (hk : Kept st s) (h : Mine st s v l) (hl : l.length + 2 ≤ room) :
    ∃ v' s', Ab.app8 s.tok1 v (.bys (.own s.toks.length) [c, d]) = some (v', s') ∧ Kept st s' ∧ Mine st s' v' (l ++ [c, d]) :=
  hk.tok1.app8 h.tok1 rfl (by simpa using hl)
theorem lit8_1 {c : UInt8} : lit8Fill (List.replicate 1 0) [(0, .b8 c)] = some [c] := rfl
theorem lit8_2 {c d : UInt8} : lit8Fill (List.replicate 2 0) [(0, .b8 c), (1, .b8 d)] = some [c, d] := rfl
/-- What a call hands back that is no slice, no place. -/
def Flat (v : PV) : Prop := (∀ n, v.inB n = true) ∧ (∀ n toks, keepRes n toks v = (v, []))
theorem Kept.leave' (h : Kept st s) {v : PV} (hv : Flat v) : Ab.leave st s v = (v, st) := h.leave (hv.1 _) hv.2
end Go.Ab
