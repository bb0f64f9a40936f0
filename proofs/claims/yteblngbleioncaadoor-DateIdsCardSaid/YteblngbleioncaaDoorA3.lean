/-
  The abstract code of functions, printed by program (abgen.py, abput2.py).
-/
import Derived.Test.YteblngbleioncaaDoorA1
import Derived.Test.YteblngbleioncaaDoorA2
namespace Go.Ab

/-- posthorn/posthornlaw07.long -/
def F_posthornlaw07_long : ACFn := { nt := 17, results := [.tmp 2], body := (
  .seq (
    .region [
      ⟨some 1, .box (.tmp 0), none⟩,
      ⟨some 2, .mov (.const (.bool false)), none⟩]) (
    .seq (
      .region [
        ⟨some 3, .faddr 0 (.tmp 1), none⟩,
        ⟨some 4, .load false 1 (.tmp 3), none⟩,
        ⟨some 5, .len true (.tmp 4), none⟩,
        ⟨some 6, .faddr 1 (.tmp 1), none⟩,
        ⟨some 7, .load false 1 (.tmp 6), none⟩,
        ⟨some 8, .len true (.tmp 7), none⟩,
        ⟨some 9, .bin .add .no (.tmp 5) (.tmp 8), none⟩,
        ⟨some 10, .bin .gtr .no (.tmp 9) (.const (.int .i64 1000)), none⟩,
        ⟨some 11, .mov (.tmp 10), none⟩,
        ⟨some 12, .faddr 2 (.tmp 1), some (11, false)⟩,
        ⟨some 13, .load false 1 (.tmp 12), some (11, false)⟩,
        ⟨some 14, .len true (.tmp 13), some (11, false)⟩,
        ⟨some 15, .bin .gtr .no (.tmp 14) (.const (.int .i64 1000)), some (11, false)⟩,
        ⟨some 16, .pick (.tmp 11) (.const (.bool true)) (.tmp 15), none⟩,
        ⟨some 2, .mov (.tmp 16), none⟩]) (
      .ret))) }

/-- posthorn/addr.Right -/
def F_addr_Right : ACFn := { nt := 28, results := [.tmp 2], body := (
  .seq (
    .region [
      ⟨some 1, .box (.tmp 0), none⟩,
      ⟨some 2, .mov (.const (.bool false)), none⟩]) (
    .seq (
      .region [
        ⟨some 3, .faddr 1 (.tmp 1), none⟩,
        ⟨some 4, .load false 1 (.tmp 3), none⟩,
        ⟨some 5, .len true (.tmp 4), none⟩,
        ⟨some 6, .bin .leq .no (.tmp 5) (.const (.int .i64 64)), none⟩,
        ⟨some 7, .mov (.tmp 6), none⟩,
        ⟨some 8, .faddr 1 (.tmp 1), some (7, true)⟩,
        ⟨some 9, .load false 1 (.tmp 8), some (7, true)⟩,
        ⟨some 10, .call (.fn 124) [(.tmp 9), (.const (.str [46])), (.fn 125)], some (7, true)⟩,
        ⟨some 11, .pick (.tmp 7) (.tmp 10) (.const (.bool false)), none⟩,
        ⟨some 12, .mov (.tmp 11), none⟩,
        ⟨some 13, .faddr 2 (.tmp 1), some (12, true)⟩,
        ⟨some 14, .load false 1 (.tmp 13), some (12, true)⟩,
        ⟨some 15, .len true (.tmp 14), some (12, true)⟩,
        ⟨some 16, .bin .leq .no (.tmp 15) (.const (.int .i64 253)), some (12, true)⟩,
        ⟨some 17, .pick (.tmp 12) (.tmp 16) (.const (.bool false)), none⟩,
        ⟨some 18, .mov (.tmp 17), none⟩,
        ⟨some 19, .faddr 2 (.tmp 1), some (18, true)⟩,
        ⟨some 20, .load false 1 (.tmp 19), some (18, true)⟩,
        ⟨some 21, .call (.fn 124) [(.tmp 20), (.const (.str [46])), (.fn 126)], some (18, true)⟩,
        ⟨some 22, .pick (.tmp 18) (.tmp 21) (.const (.bool false)), none⟩,
        ⟨some 23, .mov (.tmp 22), none⟩,
        ⟨some 24, .faddr 0 (.tmp 1), some (23, true)⟩,
        ⟨some 25, .load false 1 (.tmp 24), some (23, true)⟩,
        ⟨some 26, .call (.fn 127) [(.tmp 25)], some (23, true)⟩,
        ⟨some 27, .pick (.tmp 23) (.tmp 26) (.const (.bool false)), none⟩,
        ⟨some 2, .mov (.tmp 27), none⟩]) (
      .ret))) }

/-- posthorn/addr.Normal -/
def F_addr_Normal : ACFn := { nt := 37, results := [.tmp 2], body := (
  .seq (
    .region [
      ⟨some 1, .box (.tmp 0), none⟩,
      ⟨some 2, .mov (.const (.str [])), none⟩]) (
    .seq (
      .seq (
        .region [
          ⟨some 6, .load true 3 (.tmp 1), none⟩,
          ⟨some 7, .call (.fn 111) [(.tmp 6)], none⟩,
          ⟨some 8, .un .not (.tmp 7), none⟩]) (
        .cond (.tmp 8) (
          .seq (
            .region [
              ⟨some 2, .mov (.const (.str [])), none⟩]) (
            .ret)) (
          .skip))) (
      .seq (
        .region [
          ⟨some 9, .faddr 1 (.tmp 1), none⟩,
          ⟨some 10, .load false 1 (.tmp 9), none⟩,
          ⟨some 11, .bin .add .no (.tmp 10) (.const (.str [64])), none⟩,
          ⟨some 12, .faddr 2 (.tmp 1), none⟩,
          ⟨some 13, .load false 1 (.tmp 12), none⟩,
          ⟨some 14, .bin .add .no (.tmp 11) (.tmp 13), none⟩,
          ⟨some 15, .cS2B true (.tmp 14), none⟩,
          ⟨some 3, .mov (.tmp 15), none⟩]) (
        .seq (
          .seq (
            .region [
              ⟨some 16, .mov (.tmp 3), none⟩,
              ⟨some 17, .len false (.tmp 16), none⟩,
              ⟨some 18, .mov (.const (.int .i64 0)), none⟩]) (
            .block 0 (
              .loop (
                .seq (
                  .region [
                    ⟨some 19, .bin .lss .no (.tmp 18) (.tmp 17), none⟩]) (
                  .seq (
                    .cond (.tmp 19) (
                      .skip) (
                      .exit 0)) (
                    .seq (
                      .block 1 (
                        .seq (
                          .region [
                            ⟨some 20, .mov (.tmp 18), none⟩,
                            ⟨some 21, .iaddr 1 (.tmp 16) (.tmp 18), none⟩,
                            ⟨some 22, .load false 1 (.tmp 21), none⟩,
                            ⟨some 4, .mov (.tmp 20), none⟩,
                            ⟨some 5, .mov (.tmp 22), none⟩]) (
                          .seq (
                            .region [
                              ⟨some 23, .mov (.tmp 5), none⟩,
                              ⟨some 24, .bin .geq .no (.tmp 23) (.const (.b8 65)), none⟩,
                              ⟨some 25, .mov (.tmp 24), none⟩,
                              ⟨some 26, .mov (.tmp 5), some (25, true)⟩,
                              ⟨some 27, .bin .leq .no (.tmp 26) (.const (.b8 90)), some (25, true)⟩,
                              ⟨some 28, .pick (.tmp 25) (.tmp 27) (.const (.bool false)), none⟩]) (
                            .cond (.tmp 28) (
                              .region [
                                ⟨some 29, .mov (.tmp 3), none⟩,
                                ⟨some 30, .mov (.tmp 4), none⟩,
                                ⟨some 31, .mov (.tmp 5), none⟩,
                                ⟨some 32, .bin .add .no (.tmp 31) (.const (.b8 32)), none⟩,
                                ⟨some 33, .iaddr 1 (.tmp 29) (.tmp 30), none⟩,
                                ⟨none, .store 1 (.tmp 33) (.tmp 32), none⟩]) (
                              .skip))))) (
                      .region [
                        ⟨some 34, .bin .add .no (.tmp 18) (.const (.int .i64 1)), none⟩,
                        ⟨some 18, .mov (.tmp 34), none⟩]))))))) (
          .seq (
            .region [
              ⟨some 35, .mov (.tmp 3), none⟩,
              ⟨some 36, .cB2S true (.tmp 35), none⟩,
              ⟨some 2, .mov (.tmp 36), none⟩]) (
            .ret)))))) }

/-- posthorn/posthornref04.Lower -/
def F_posthornref04_Lower : ACFn := { nt := 29, results := [.tmp 2], body := (
  .seq (
    .region [
      ⟨some 2, .mov (.const (.str [])), none⟩]) (
    .seq (
      .region [
        ⟨some 3, .mov (.const (.nils)), none⟩]) (
      .seq (
        .seq (
          .region [
            ⟨some 4, .mov (.const (.int .i64 0)), none⟩]) (
          .block 0 (
            .loop (
              .seq (
                .seq (
                  .region [
                    ⟨some 6, .mov (.tmp 4), none⟩,
                    ⟨some 7, .mov (.tmp 0), none⟩,
                    ⟨some 8, .len true (.tmp 7), none⟩,
                    ⟨some 9, .bin .lss .no (.tmp 6) (.tmp 8), none⟩]) (
                  .cond (.tmp 9) (
                    .skip) (
                    .exit 0))) (
                .seq (
                  .block 1 (
                    .seq (
                      .region [
                        ⟨some 12, .mov (.tmp 0), none⟩,
                        ⟨some 13, .mov (.tmp 4), none⟩,
                        ⟨some 14, .idxS (.tmp 12) (.tmp 13), none⟩,
                        ⟨some 5, .mov (.tmp 14), none⟩]) (
                      .seq (
                        .seq (
                          .region [
                            ⟨some 15, .mov (.tmp 5), none⟩,
                            ⟨some 16, .bin .geq .no (.tmp 15) (.const (.b8 65)), none⟩,
                            ⟨some 17, .mov (.tmp 16), none⟩,
                            ⟨some 18, .mov (.tmp 5), some (17, true)⟩,
                            ⟨some 19, .bin .leq .no (.tmp 18) (.const (.b8 90)), some (17, true)⟩,
                            ⟨some 20, .pick (.tmp 17) (.tmp 19) (.const (.bool false)), none⟩]) (
                          .cond (.tmp 20) (
                            .region [
                              ⟨some 21, .mov (.tmp 5), none⟩,
                              ⟨some 22, .bin .add .no (.tmp 21) (.const (.b8 32)), none⟩,
                              ⟨some 5, .mov (.tmp 22), none⟩]) (
                            .skip))) (
                        .region [
                          ⟨some 23, .mov (.tmp 3), none⟩,
                          ⟨some 24, .mov (.tmp 5), none⟩,
                          ⟨some 25, .lit8 1 [(0, (.tmp 24))], none⟩,
                          ⟨some 26, .app true 1 (.tmp 23) (.tmp 25), none⟩,
                          ⟨some 3, .mov (.tmp 26), none⟩])))) (
                  .region [
                    ⟨some 10, .mov (.tmp 4), none⟩,
                    ⟨some 11, .bin .add .no (.tmp 10) (.const (.int .i64 1)), none⟩,
                    ⟨some 4, .mov (.tmp 11), none⟩])))))) (
        .seq (
          .region [
            ⟨some 27, .mov (.tmp 3), none⟩,
            ⟨some 28, .cB2S false (.tmp 27), none⟩,
            ⟨some 2, .mov (.tmp 28), none⟩]) (
          .ret))))) }

/-- posthorn/addr.Plain -/
def F_addr_Plain : ACFn := { nt := 22, results := [.cell 2 true 3, .tmp 3], body := (
  .seq (
    .region [
      ⟨some 2, .alloc [.str [], .str [], .str []], none⟩,
      ⟨some 3, .mov (.const (.int .i64 0)), none⟩]) (
    .seq (
      .region [
        ⟨some 9, .mov (.tmp 0), none⟩,
        ⟨some 10, .call (.fn 128) [(.tmp 9), (.const (.str [64]))], none⟩,
        ⟨some 8, .mov (.tmp 10), none⟩,
        ⟨some 11, .ext 0 (.tmp 8), none⟩,
        ⟨some 12, .ext 1 (.tmp 8), none⟩,
        ⟨some 13, .ext 2 (.tmp 8), none⟩,
        ⟨some 4, .mov (.tmp 11), none⟩,
        ⟨some 5, .mov (.tmp 12), none⟩,
        ⟨some 6, .mov (.tmp 13), none⟩]) (
      .seq (
        .region [
          ⟨some 14, .mov (.tmp 4), none⟩,
          ⟨some 15, .mov (.tmp 5), none⟩,
          ⟨some 16, .build [.str [], .str [], .str []] [(1, 1, (.tmp 14)), (2, 1, (.tmp 15))], none⟩,
          ⟨some 7, .alloc [.str [], .str [], .str []], none⟩,
          ⟨none, .store 3 (.tmp 7) (.tmp 16), none⟩]) (
        .seq (
          .seq (
            .region [
              ⟨some 17, .load true 3 (.tmp 7), none⟩,
              ⟨some 18, .call (.fn 111) [(.tmp 17)], none⟩,
              ⟨some 19, .un .not (.tmp 18), none⟩]) (
            .cond (.tmp 19) (
              .seq (
                .region [
                  ⟨some 20, .build [.str [], .str [], .str []] [], none⟩,
                  ⟨none, .store 3 (.tmp 2) (.tmp 20), none⟩,
                  ⟨some 3, .mov (.const (.int .i64 60)), none⟩]) (
                .ret)) (
              .skip))) (
          .seq (
            .region [
              ⟨some 21, .load true 3 (.tmp 7), none⟩,
              ⟨none, .store 3 (.tmp 2) (.tmp 21), none⟩,
              ⟨some 3, .mov (.const (.int .i64 0)), none⟩]) (
            .ret)))))) }

/-- posthorn/addr.parts -/
def F_addr_parts : ACFn := { nt := 22, results := [.tmp 6], body := (
  .seq (
    .region [
      ⟨some 6, .mov (.const (.bool false)), none⟩]) (
    .seq (
      .seq (
        .region [
          ⟨some 9, .mov (.tmp 0), none⟩,
          ⟨some 10, .mov (.tmp 1), none⟩,
          ⟨some 11, .call (.fn 133) [(.tmp 9), (.tmp 10)], none⟩,
          ⟨some 12, .len false (.tmp 11), none⟩,
          ⟨some 13, .mov (.const (.int .i64 0)), none⟩]) (
        .block 0 (
          .loop (
            .seq (
              .region [
                ⟨some 14, .bin .lss .no (.tmp 13) (.tmp 12), none⟩]) (
              .seq (
                .cond (.tmp 14) (
                  .skip) (
                  .exit 0)) (
                .seq (
                  .block 1 (
                    .seq (
                      .region [
                        ⟨some 15, .iaddr 1 (.tmp 11) (.tmp 13), none⟩,
                        ⟨some 16, .load false 1 (.tmp 15), none⟩,
                        ⟨some 8, .mov (.tmp 16), none⟩]) (
                      .seq (
                        .region [
                          ⟨some 17, .mov (.tmp 2), none⟩,
                          ⟨some 18, .mov (.tmp 8), none⟩,
                          ⟨some 19, .call (.tmp 17) [(.tmp 18)], none⟩,
                          ⟨some 20, .un .not (.tmp 19), none⟩]) (
                        .cond (.tmp 20) (
                          .seq (
                            .region [
                              ⟨some 6, .mov (.const (.bool false)), none⟩]) (
                            .ret)) (
                          .skip))))) (
                  .region [
                    ⟨some 21, .bin .add .no (.tmp 13) (.const (.int .i64 1)), none⟩,
                    ⟨some 13, .mov (.tmp 21), none⟩]))))))) (
      .seq (
        .region [
          ⟨some 6, .mov (.const (.bool true)), none⟩]) (
        .ret)))) }

/-- posthorn/addr.isAtom -/
def F_addr_isAtom : ACFn := { nt := 24, results := [.tmp 2], body := (
  .seq (
    .region [
      ⟨some 2, .mov (.const (.bool false)), none⟩]) (
    .seq (
      .seq (
        .region [
          ⟨some 4, .mov (.tmp 0), none⟩,
          ⟨some 5, .len true (.tmp 4), none⟩,
          ⟨some 6, .mov (.const (.int .i64 0)), none⟩]) (
        .block 0 (
          .loop (
            .seq (
              .region [
                ⟨some 7, .bin .lss .no (.tmp 6) (.tmp 5), none⟩]) (
              .seq (
                .cond (.tmp 7) (
                  .skip) (
                  .exit 0)) (
                .seq (
                  .block 1 (
                    .seq (
                      .region [
                        ⟨some 8, .mov (.tmp 6), none⟩,
                        ⟨some 3, .mov (.tmp 8), none⟩]) (
                      .seq (
                        .region [
                          ⟨some 9, .mov (.tmp 0), none⟩,
                          ⟨some 10, .mov (.tmp 3), none⟩,
                          ⟨some 11, .idxS (.tmp 9) (.tmp 10), none⟩,
                          ⟨some 12, .call (.fn 134) [(.tmp 11)], none⟩,
                          ⟨some 13, .un .not (.tmp 12), none⟩,
                          ⟨some 14, .mov (.tmp 13), none⟩,
                          ⟨some 15, .mov (.tmp 0), some (14, true)⟩,
                          ⟨some 16, .mov (.tmp 3), some (14, true)⟩,
                          ⟨some 17, .idxS (.tmp 15) (.tmp 16), some (14, true)⟩,
                          ⟨some 18, .call (.fn 78) [(.const (.str [33, 35, 36, 37, 38, 39, 42, 43, 45, 47, 61, 63, 94, 95, 123, 124, 125, 126, 96])), (.tmp 17)], some (14, true)⟩,
                          ⟨some 19, .bin .lss .no (.tmp 18) (.const (.int .i64 0)), some (14, true)⟩,
                          ⟨some 20, .pick (.tmp 14) (.tmp 19) (.const (.bool false)), none⟩]) (
                        .cond (.tmp 20) (
                          .seq (
                            .region [
                              ⟨some 2, .mov (.const (.bool false)), none⟩]) (
                            .ret)) (
                          .skip))))) (
                  .region [
                    ⟨some 21, .bin .add .no (.tmp 6) (.const (.int .i64 1)), none⟩,
                    ⟨some 6, .mov (.tmp 21), none⟩]))))))) (
      .seq (
        .region [
          ⟨some 22, .mov (.tmp 0), none⟩,
          ⟨some 23, .bin .neq .no (.tmp 22) (.const (.str [])), none⟩,
          ⟨some 2, .mov (.tmp 23), none⟩]) (
        .ret)))) }

/-- posthorn/addr.isLabel -/
def F_addr_isLabel : ACFn := { nt := 41, results := [.tmp 2], body := (
  .seq (
    .region [
      ⟨some 2, .mov (.const (.bool false)), none⟩]) (
    .seq (
      .seq (
        .region [
          ⟨some 4, .mov (.tmp 0), none⟩,
          ⟨some 5, .len true (.tmp 4), none⟩,
          ⟨some 6, .mov (.const (.int .i64 0)), none⟩]) (
        .block 0 (
          .loop (
            .seq (
              .region [
                ⟨some 7, .bin .lss .no (.tmp 6) (.tmp 5), none⟩]) (
              .seq (
                .cond (.tmp 7) (
                  .skip) (
                  .exit 0)) (
                .seq (
                  .block 1 (
                    .seq (
                      .region [
                        ⟨some 8, .mov (.tmp 6), none⟩,
                        ⟨some 3, .mov (.tmp 8), none⟩]) (
                      .seq (
                        .region [
                          ⟨some 9, .mov (.tmp 0), none⟩,
                          ⟨some 10, .mov (.tmp 3), none⟩,
                          ⟨some 11, .idxS (.tmp 9) (.tmp 10), none⟩,
                          ⟨some 12, .call (.fn 134) [(.tmp 11)], none⟩,
                          ⟨some 13, .un .not (.tmp 12), none⟩,
                          ⟨some 14, .mov (.tmp 13), none⟩,
                          ⟨some 15, .mov (.tmp 0), some (14, true)⟩,
                          ⟨some 16, .mov (.tmp 3), some (14, true)⟩,
                          ⟨some 17, .idxS (.tmp 15) (.tmp 16), some (14, true)⟩,
                          ⟨some 18, .bin .neq .no (.tmp 17) (.const (.b8 45)), some (14, true)⟩,
                          ⟨some 19, .pick (.tmp 14) (.tmp 18) (.const (.bool false)), none⟩]) (
                        .cond (.tmp 19) (
                          .seq (
                            .region [
                              ⟨some 2, .mov (.const (.bool false)), none⟩]) (
                            .ret)) (
                          .skip))))) (
                  .region [
                    ⟨some 20, .bin .add .no (.tmp 6) (.const (.int .i64 1)), none⟩,
                    ⟨some 6, .mov (.tmp 20), none⟩]))))))) (
      .seq (
        .region [
          ⟨some 21, .mov (.tmp 0), none⟩,
          ⟨some 22, .bin .neq .no (.tmp 21) (.const (.str [])), none⟩,
          ⟨some 23, .mov (.tmp 22), none⟩,
          ⟨some 24, .mov (.tmp 0), some (23, true)⟩,
          ⟨some 25, .len true (.tmp 24), some (23, true)⟩,
          ⟨some 26, .bin .leq .no (.tmp 25) (.const (.int .i64 63)), some (23, true)⟩,
          ⟨some 27, .pick (.tmp 23) (.tmp 26) (.const (.bool false)), none⟩,
          ⟨some 28, .mov (.tmp 27), none⟩,
          ⟨some 29, .mov (.tmp 0), some (28, true)⟩,
          ⟨some 30, .idxS (.tmp 29) (.const (.int .i64 0)), some (28, true)⟩,
          ⟨some 31, .bin .neq .no (.tmp 30) (.const (.b8 45)), some (28, true)⟩,
          ⟨some 32, .pick (.tmp 28) (.tmp 31) (.const (.bool false)), none⟩,
          ⟨some 33, .mov (.tmp 32), none⟩,
          ⟨some 34, .mov (.tmp 0), some (33, true)⟩,
          ⟨some 35, .mov (.tmp 0), some (33, true)⟩,
          ⟨some 36, .len true (.tmp 35), some (33, true)⟩,
          ⟨some 37, .bin .sub .no (.tmp 36) (.const (.int .i64 1)), some (33, true)⟩,
          ⟨some 38, .idxS (.tmp 34) (.tmp 37), some (33, true)⟩,
          ⟨some 39, .bin .neq .no (.tmp 38) (.const (.b8 45)), some (33, true)⟩,
          ⟨some 40, .pick (.tmp 33) (.tmp 39) (.const (.bool false)), none⟩,
          ⟨some 2, .mov (.tmp 40), none⟩]) (
        .ret)))) }

/-- posthorn/addr.isName -/
def F_addr_isName : ACFn := { nt := 23, results := [.tmp 2], body := (
  .seq (
    .region [
      ⟨some 2, .mov (.const (.bool false)), none⟩]) (
    .seq (
      .seq (
        .region [
          ⟨some 4, .mov (.tmp 0), none⟩,
          ⟨some 5, .len true (.tmp 4), none⟩,
          ⟨some 6, .mov (.const (.int .i64 0)), none⟩]) (
        .block 0 (
          .loop (
            .seq (
              .region [
                ⟨some 7, .bin .lss .no (.tmp 6) (.tmp 5), none⟩]) (
              .seq (
                .cond (.tmp 7) (
                  .skip) (
                  .exit 0)) (
                .seq (
                  .block 1 (
                    .seq (
                      .region [
                        ⟨some 8, .mov (.tmp 6), none⟩,
                        ⟨some 3, .mov (.tmp 8), none⟩]) (
                      .seq (
                        .region [
                          ⟨some 9, .mov (.tmp 0), none⟩,
                          ⟨some 10, .mov (.tmp 3), none⟩,
                          ⟨some 11, .idxS (.tmp 9) (.tmp 10), none⟩,
                          ⟨some 12, .bin .lss .no (.tmp 11) (.const (.b8 32)), none⟩,
                          ⟨some 13, .mov (.tmp 12), none⟩,
                          ⟨some 14, .mov (.tmp 0), some (13, false)⟩,
                          ⟨some 15, .mov (.tmp 3), some (13, false)⟩,
                          ⟨some 16, .idxS (.tmp 14) (.tmp 15), some (13, false)⟩,
                          ⟨some 17, .bin .gtr .no (.tmp 16) (.const (.b8 126)), some (13, false)⟩,
                          ⟨some 18, .pick (.tmp 13) (.const (.bool true)) (.tmp 17), none⟩]) (
                        .cond (.tmp 18) (
                          .seq (
                            .region [
                              ⟨some 2, .mov (.const (.bool false)), none⟩]) (
                            .ret)) (
                          .skip))))) (
                  .region [
                    ⟨some 19, .bin .add .no (.tmp 6) (.const (.int .i64 1)), none⟩,
                    ⟨some 6, .mov (.tmp 19), none⟩]))))))) (
      .seq (
        .region [
          ⟨some 20, .mov (.tmp 0), none⟩,
          ⟨some 21, .len true (.tmp 20), none⟩,
          ⟨some 22, .bin .leq .no (.tmp 21) (.const (.int .i64 128)), none⟩,
          ⟨some 2, .mov (.tmp 22), none⟩]) (
        .ret)))) }

/-- strings.Cut -/
def F_strings_Cut : ACFn := { nt := 13, results := [.tmp 4, .tmp 5, .tmp 6], body := (
  .seq (
    .region [
      ⟨some 4, .mov (.const (.str [])), none⟩,
      ⟨some 5, .mov (.const (.str [])), none⟩,
      ⟨some 6, .mov (.const (.bool false)), none⟩]) (
    .seq (
      .region [
        ⟨some 7, .mov (.tmp 0), none⟩,
        ⟨some 8, .mov (.tmp 1), none⟩,
        ⟨some 9, .call (.fn 135) [(.tmp 7), (.tmp 8)], none⟩,
        ⟨some 10, .ext 0 (.tmp 9), none⟩,
        ⟨some 11, .ext 1 (.tmp 9), none⟩,
        ⟨some 12, .ext 2 (.tmp 9), none⟩,
        ⟨some 4, .mov (.tmp 10), none⟩,
        ⟨some 5, .mov (.tmp 11), none⟩,
        ⟨some 6, .mov (.tmp 12), none⟩]) (
      .ret))) }

/-- posthorn/addr.alnum -/
def F_addr_alnum : ACFn := { nt := 24, results := [.tmp 2], body := (
  .seq (
    .region [
      ⟨some 2, .mov (.const (.bool false)), none⟩]) (
    .seq (
      .block 0 (
        .seq (
          .block 3 (
            .block 2 (
              .block 1 (
                .seq (
                  .seq (
                    .seq (
                      .region [
                        ⟨some 4, .mov (.tmp 0), none⟩,
                        ⟨some 5, .bin .geq .no (.tmp 4) (.const (.b8 97)), none⟩,
                        ⟨some 6, .mov (.tmp 5), none⟩,
                        ⟨some 7, .mov (.tmp 0), some (6, true)⟩,
                        ⟨some 8, .bin .leq .no (.tmp 7) (.const (.b8 122)), some (6, true)⟩,
                        ⟨some 9, .pick (.tmp 6) (.tmp 8) (.const (.bool false)), none⟩,
                        ⟨some 3, .mov (.tmp 9), none⟩]) (
                      .cond (.tmp 3) (
                        .exit 1) (
                        .skip))) (
                    .seq (
                      .seq (
                        .region [
                          ⟨some 11, .mov (.tmp 0), none⟩,
                          ⟨some 12, .bin .geq .no (.tmp 11) (.const (.b8 65)), none⟩,
                          ⟨some 13, .mov (.tmp 12), none⟩,
                          ⟨some 14, .mov (.tmp 0), some (13, true)⟩,
                          ⟨some 15, .bin .leq .no (.tmp 14) (.const (.b8 90)), some (13, true)⟩,
                          ⟨some 16, .pick (.tmp 13) (.tmp 15) (.const (.bool false)), none⟩,
                          ⟨some 10, .mov (.tmp 16), none⟩]) (
                        .cond (.tmp 10) (
                          .exit 2) (
                          .skip))) (
                      .seq (
                        .region [
                          ⟨some 18, .mov (.tmp 0), none⟩,
                          ⟨some 19, .bin .geq .no (.tmp 18) (.const (.b8 48)), none⟩,
                          ⟨some 20, .mov (.tmp 19), none⟩,
                          ⟨some 21, .mov (.tmp 0), some (20, true)⟩,
                          ⟨some 22, .bin .leq .no (.tmp 21) (.const (.b8 57)), some (20, true)⟩,
                          ⟨some 23, .pick (.tmp 20) (.tmp 22) (.const (.bool false)), none⟩,
                          ⟨some 17, .mov (.tmp 23), none⟩]) (
                        .cond (.tmp 17) (
                          .exit 3) (
                          .skip))))) (
                  .exit 0))))) (
          .seq (
            .seq (
              .region [
                ⟨some 2, .mov (.const (.bool true)), none⟩]) (
              .ret)) (
            .exit 0)))) (
      .seq (
        .region [
          ⟨some 2, .mov (.const (.bool false)), none⟩]) (
        .ret)))) }

/-- internal/stringslite.Cut -/
def F_internal_stringslite_Cut : ACFn := { nt := 23, results := [.tmp 4, .tmp 5, .tmp 6], body := (
  .seq (
    .region [
      ⟨some 4, .mov (.const (.str [])), none⟩,
      ⟨some 5, .mov (.const (.str [])), none⟩,
      ⟨some 6, .mov (.const (.bool false)), none⟩]) (
    .seq (
      .seq (
        .region [
          ⟨some 8, .mov (.tmp 0), none⟩,
          ⟨some 9, .mov (.tmp 1), none⟩,
          ⟨some 10, .call (.fn 82) [(.tmp 8), (.tmp 9)], none⟩,
          ⟨some 7, .mov (.tmp 10), none⟩]) (
        .seq (
          .region [
            ⟨some 11, .mov (.tmp 7), none⟩,
            ⟨some 12, .bin .geq .no (.tmp 11) (.const (.int .i64 0)), none⟩]) (
          .cond (.tmp 12) (
            .seq (
              .region [
                ⟨some 13, .mov (.tmp 0), none⟩,
                ⟨some 14, .mov (.tmp 7), none⟩,
                ⟨some 15, .slc 0 (.tmp 13) none (some (.tmp 14)) none, none⟩,
                ⟨some 16, .mov (.tmp 0), none⟩,
                ⟨some 17, .mov (.tmp 7), none⟩,
                ⟨some 18, .mov (.tmp 1), none⟩,
                ⟨some 19, .len true (.tmp 18), none⟩,
                ⟨some 20, .bin .add .no (.tmp 17) (.tmp 19), none⟩,
                ⟨some 21, .slc 0 (.tmp 16) (some (.tmp 20)) none none, none⟩,
                ⟨some 4, .mov (.tmp 15), none⟩,
                ⟨some 5, .mov (.tmp 21), none⟩,
                ⟨some 6, .mov (.const (.bool true)), none⟩]) (
              .ret)) (
            .skip)))) (
      .seq (
        .region [
          ⟨some 22, .mov (.tmp 0), none⟩,
          ⟨some 4, .mov (.tmp 22), none⟩,
          ⟨some 5, .mov (.const (.str [])), none⟩,
          ⟨some 6, .mov (.const (.bool false)), none⟩]) (
        .ret)))) }

end Go.Ab

/-
  The abstract code of functions, printed by program (abgen.py, abput2.py).
-/
namespace Go.Ab

/-- posthorn/posthornlaw06.Great -/
def F_posthornlaw06_Great : ACFn := { nt := 42, results := [.tmp 2], body := (
  .seq (
    .region [
      ⟨some 2, .mov (.const (.bool false)), none⟩]) (
    .seq (
      .seq (
        .region [
          ⟨some 4, .mov (.tmp 0), none⟩,
          ⟨some 5, .len false (.tmp 4), none⟩,
          ⟨some 6, .bin .gtr .no (.tmp 5) (.const (.int .i64 200)), none⟩]) (
        .cond (.tmp 6) (
          .seq (
            .region [
              ⟨some 2, .mov (.const (.bool true)), none⟩]) (
            .ret)) (
          .skip))) (
      .seq (
        .seq (
          .region [
            ⟨some 3, .mov (.const (.int .i64 0)), none⟩]) (
          .block 0 (
            .loop (
              .seq (
                .seq (
                  .region [
                    ⟨some 7, .mov (.tmp 3), none⟩,
                    ⟨some 8, .mov (.tmp 0), none⟩,
                    ⟨some 9, .len false (.tmp 8), none⟩,
                    ⟨some 10, .bin .lss .no (.tmp 7) (.tmp 9), none⟩]) (
                  .cond (.tmp 10) (
                    .skip) (
                    .exit 0))) (
                .seq (
                  .block 1 (
                    .seq (
                      .region [
                        ⟨some 13, .mov (.tmp 0), none⟩,
                        ⟨some 14, .mov (.tmp 3), none⟩,
                        ⟨some 15, .iaddr 2 (.tmp 13) (.tmp 14), none⟩,
                        ⟨some 16, .faddr 0 (.tmp 15), none⟩,
                        ⟨some 17, .load false 1 (.tmp 16), none⟩,
                        ⟨some 18, .len true (.tmp 17), none⟩,
                        ⟨some 19, .bin .gtr .no (.tmp 18) (.const (.int .i64 200)), none⟩,
                        ⟨some 20, .mov (.tmp 19), none⟩,
                        ⟨some 21, .mov (.tmp 0), some (20, false)⟩,
                        ⟨some 22, .mov (.tmp 3), some (20, false)⟩,
                        ⟨some 23, .iaddr 2 (.tmp 21) (.tmp 22), some (20, false)⟩,
                        ⟨some 24, .faddr 1 (.tmp 23), some (20, false)⟩,
                        ⟨some 25, .load false 1 (.tmp 24), some (20, false)⟩,
                        ⟨some 26, .len true (.tmp 25), some (20, false)⟩,
                        ⟨some 27, .bin .gtr .no (.tmp 26) (.const (.int .i64 5000)), some (20, false)⟩,
                        ⟨some 28, .pick (.tmp 20) (.const (.bool true)) (.tmp 27), none⟩,
                        ⟨some 29, .mov (.tmp 28), none⟩,
                        ⟨some 30, .mov (.tmp 3), some (29, false)⟩,
                        ⟨some 31, .bin .gtr .no (.tmp 30) (.const (.int .i64 20)), some (29, false)⟩,
                        ⟨some 32, .mov (.tmp 31), some (29, false)⟩,
                        ⟨some 33, .mov (.tmp 0), some (32, true)⟩,
                        ⟨some 34, .mov (.tmp 3), some (32, true)⟩,
                        ⟨some 35, .iaddr 2 (.tmp 33) (.tmp 34), some (32, true)⟩,
                        ⟨some 36, .faddr 1 (.tmp 35), some (32, true)⟩,
                        ⟨some 37, .load false 1 (.tmp 36), some (32, true)⟩,
                        ⟨some 38, .len true (.tmp 37), some (32, true)⟩,
                        ⟨some 39, .bin .gtr .no (.tmp 38) (.const (.int .i64 100)), some (32, true)⟩,
                        ⟨some 40, .pick (.tmp 32) (.tmp 39) (.const (.bool false)), some (29, false)⟩,
                        ⟨some 41, .pick (.tmp 29) (.const (.bool true)) (.tmp 40), none⟩]) (
                      .cond (.tmp 41) (
                        .seq (
                          .region [
                            ⟨some 2, .mov (.const (.bool true)), none⟩]) (
                          .ret)) (
                        .skip)))) (
                  .region [
                    ⟨some 11, .mov (.tmp 3), none⟩,
                    ⟨some 12, .bin .add .no (.tmp 11) (.const (.int .i64 1)), none⟩,
                    ⟨some 3, .mov (.tmp 12), none⟩])))))) (
        .seq (
          .region [
            ⟨some 2, .mov (.const (.bool false)), none⟩]) (
          .ret))))) }

/-- posthorn/fields.Get -/
def F_fields_Get : ACFn := { nt := 29, results := [.tmp 4, .tmp 5], body := (
  .seq (
    .region [
      ⟨some 4, .mov (.const (.str [])), none⟩,
      ⟨some 5, .mov (.const (.int .i64 0)), none⟩]) (
    .seq (
      .region [
        ⟨some 6, .mov (.const (.str [])), none⟩,
        ⟨some 7, .mov (.const (.int .i64 0)), none⟩]) (
      .seq (
        .seq (
          .region [
            ⟨some 10, .mov (.tmp 0), none⟩,
            ⟨some 11, .len false (.tmp 10), none⟩,
            ⟨some 12, .mov (.const (.int .i64 0)), none⟩]) (
          .block 0 (
            .loop (
              .seq (
                .region [
                  ⟨some 13, .bin .lss .no (.tmp 12) (.tmp 11), none⟩]) (
                .seq (
                  .cond (.tmp 13) (
                    .skip) (
                    .exit 0)) (
                  .seq (
                    .block 1 (
                      .seq (
                        .region [
                          ⟨some 14, .iaddr 2 (.tmp 10) (.tmp 12), none⟩,
                          ⟨some 15, .load true 2 (.tmp 14), none⟩,
                          ⟨some 9, .alloc [.str [], .str []], none⟩,
                          ⟨none, .store 2 (.tmp 9) (.tmp 15), none⟩]) (
                        .seq (
                          .region [
                            ⟨some 16, .faddr 0 (.tmp 9), none⟩,
                            ⟨some 17, .load false 1 (.tmp 16), none⟩,
                            ⟨some 18, .mov (.tmp 1), none⟩,
                            ⟨some 19, .call (.fn 155) [(.tmp 17), (.tmp 18)], none⟩]) (
                          .cond (.tmp 19) (
                            .seq (
                              .seq (
                                .region [
                                  ⟨some 20, .mov (.tmp 7), none⟩,
                                  ⟨some 21, .bin .eql .no (.tmp 20) (.const (.int .i64 0)), none⟩]) (
                                .cond (.tmp 21) (
                                  .region [
                                    ⟨some 22, .faddr 1 (.tmp 9), none⟩,
                                    ⟨some 23, .load false 1 (.tmp 22), none⟩,
                                    ⟨some 6, .mov (.tmp 23), none⟩]) (
                                  .skip))) (
                              .region [
                                ⟨some 24, .mov (.tmp 7), none⟩,
                                ⟨some 25, .bin .add .no (.tmp 24) (.const (.int .i64 1)), none⟩,
                                ⟨some 7, .mov (.tmp 25), none⟩])) (
                            .skip))))) (
                    .region [
                      ⟨some 26, .bin .add .no (.tmp 12) (.const (.int .i64 1)), none⟩,
                      ⟨some 12, .mov (.tmp 26), none⟩]))))))) (
        .seq (
          .region [
            ⟨some 27, .mov (.tmp 6), none⟩,
            ⟨some 28, .mov (.tmp 7), none⟩,
            ⟨some 4, .mov (.tmp 27), none⟩,
            ⟨some 5, .mov (.tmp 28), none⟩]) (
          .ret))))) }

/-- posthorn/posthornref06.Get -/
def F_posthornref06_Get : ACFn := { nt := 37, results := [.tmp 4, .tmp 5], body := (
  .seq (
    .region [
      ⟨some 4, .mov (.const (.str [])), none⟩,
      ⟨some 5, .mov (.const (.int .i64 0)), none⟩]) (
    .seq (
      .region [
        ⟨some 6, .mov (.const (.nils)), none⟩]) (
      .seq (
        .seq (
          .region [
            ⟨some 7, .mov (.const (.int .i64 0)), none⟩]) (
          .block 0 (
            .loop (
              .seq (
                .seq (
                  .region [
                    ⟨some 8, .mov (.tmp 7), none⟩,
                    ⟨some 9, .mov (.tmp 0), none⟩,
                    ⟨some 10, .len false (.tmp 9), none⟩,
                    ⟨some 11, .bin .lss .no (.tmp 8) (.tmp 10), none⟩]) (
                  .cond (.tmp 11) (
                    .skip) (
                    .exit 0))) (
                .seq (
                  .block 1 (
                    .seq (
                      .region [
                        ⟨some 14, .mov (.tmp 0), none⟩,
                        ⟨some 15, .mov (.tmp 7), none⟩,
                        ⟨some 16, .iaddr 2 (.tmp 14) (.tmp 15), none⟩,
                        ⟨some 17, .faddr 0 (.tmp 16), none⟩,
                        ⟨some 18, .load false 1 (.tmp 17), none⟩,
                        ⟨some 19, .mov (.tmp 1), none⟩,
                        ⟨some 20, .call (.fn 163) [(.tmp 18), (.tmp 19)], none⟩]) (
                      .cond (.tmp 20) (
                        .region [
                          ⟨some 21, .mov (.tmp 6), none⟩,
                          ⟨some 22, .mov (.tmp 0), none⟩,
                          ⟨some 23, .mov (.tmp 7), none⟩,
                          ⟨some 24, .iaddr 2 (.tmp 22) (.tmp 23), none⟩,
                          ⟨some 25, .faddr 1 (.tmp 24), none⟩,
                          ⟨some 26, .load false 1 (.tmp 25), none⟩,
                          ⟨some 27, .lit 1 (.str []) 1 [(0, (.tmp 26))], none⟩,
                          ⟨some 28, .app false 1 (.tmp 21) (.tmp 27), none⟩,
                          ⟨some 6, .mov (.tmp 28), none⟩]) (
                        .skip)))) (
                  .region [
                    ⟨some 12, .mov (.tmp 7), none⟩,
                    ⟨some 13, .bin .add .no (.tmp 12) (.const (.int .i64 1)), none⟩,
                    ⟨some 7, .mov (.tmp 13), none⟩])))))) (
        .seq (
          .seq (
            .region [
              ⟨some 29, .mov (.tmp 6), none⟩,
              ⟨some 30, .len false (.tmp 29), none⟩,
              ⟨some 31, .bin .eql .no (.tmp 30) (.const (.int .i64 0)), none⟩]) (
            .cond (.tmp 31) (
              .seq (
                .region [
                  ⟨some 4, .mov (.const (.str [])), none⟩,
                  ⟨some 5, .mov (.const (.int .i64 0)), none⟩]) (
                .ret)) (
              .skip))) (
          .seq (
            .region [
              ⟨some 32, .mov (.tmp 6), none⟩,
              ⟨some 33, .iaddr 1 (.tmp 32) (.const (.int .i64 0)), none⟩,
              ⟨some 34, .load false 1 (.tmp 33), none⟩,
              ⟨some 35, .mov (.tmp 6), none⟩,
              ⟨some 36, .len false (.tmp 35), none⟩,
              ⟨some 4, .mov (.tmp 34), none⟩,
              ⟨some 5, .mov (.tmp 36), none⟩]) (
            .ret)))))) }

/-- posthorn/fields.Same -/
def F_fields_Same : ACFn := { nt := 10, results := [.tmp 4], body := (
  .seq (
    .region [
      ⟨some 4, .mov (.const (.bool false)), none⟩]) (
    .seq (
      .region [
        ⟨some 5, .mov (.tmp 0), none⟩,
        ⟨some 6, .call (.fn 167) [(.tmp 5)], none⟩,
        ⟨some 7, .mov (.tmp 1), none⟩,
        ⟨some 8, .call (.fn 167) [(.tmp 7)], none⟩,
        ⟨some 9, .bin .eql .no (.tmp 6) (.tmp 8), none⟩,
        ⟨some 4, .mov (.tmp 9), none⟩]) (
      .ret))) }

/-- posthorn/fields.isName -/
def F_fields_isName : ACFn := { nt := 34, results := [.tmp 2], body := (
  .seq (
    .region [
      ⟨some 2, .mov (.const (.bool false)), none⟩]) (
    .seq (
      .seq (
        .region [
          ⟨some 4, .mov (.tmp 0), none⟩,
          ⟨some 5, .len true (.tmp 4), none⟩,
          ⟨some 6, .bin .lss .no (.tmp 5) (.const (.int .i64 1)), none⟩,
          ⟨some 7, .mov (.tmp 6), none⟩,
          ⟨some 8, .mov (.tmp 0), some (7, false)⟩,
          ⟨some 9, .len true (.tmp 8), some (7, false)⟩,
          ⟨some 10, .bin .gtr .no (.tmp 9) (.const (.int .i64 64)), some (7, false)⟩,
          ⟨some 11, .pick (.tmp 7) (.const (.bool true)) (.tmp 10), none⟩]) (
        .cond (.tmp 11) (
          .seq (
            .region [
              ⟨some 2, .mov (.const (.bool false)), none⟩]) (
            .ret)) (
          .skip))) (
      .seq (
        .seq (
          .region [
            ⟨some 12, .mov (.tmp 0), none⟩,
            ⟨some 13, .len true (.tmp 12), none⟩,
            ⟨some 14, .mov (.const (.int .i64 0)), none⟩]) (
          .block 0 (
            .loop (
              .seq (
                .region [
                  ⟨some 15, .bin .lss .no (.tmp 14) (.tmp 13), none⟩]) (
                .seq (
                  .cond (.tmp 15) (
                    .skip) (
                    .exit 0)) (
                  .seq (
                    .block 1 (
                      .seq (
                        .region [
                          ⟨some 16, .mov (.tmp 14), none⟩,
                          ⟨some 3, .mov (.tmp 16), none⟩]) (
                        .seq (
                          .region [
                            ⟨some 17, .mov (.tmp 0), none⟩,
                            ⟨some 18, .mov (.tmp 3), none⟩,
                            ⟨some 19, .idxS (.tmp 17) (.tmp 18), none⟩,
                            ⟨some 20, .bin .lss .no (.tmp 19) (.const (.b8 33)), none⟩,
                            ⟨some 21, .mov (.tmp 20), none⟩,
                            ⟨some 22, .mov (.tmp 0), some (21, false)⟩,
                            ⟨some 23, .mov (.tmp 3), some (21, false)⟩,
                            ⟨some 24, .idxS (.tmp 22) (.tmp 23), some (21, false)⟩,
                            ⟨some 25, .bin .gtr .no (.tmp 24) (.const (.b8 126)), some (21, false)⟩,
                            ⟨some 26, .pick (.tmp 21) (.const (.bool true)) (.tmp 25), none⟩,
                            ⟨some 27, .mov (.tmp 26), none⟩,
                            ⟨some 28, .mov (.tmp 0), some (27, false)⟩,
                            ⟨some 29, .mov (.tmp 3), some (27, false)⟩,
                            ⟨some 30, .idxS (.tmp 28) (.tmp 29), some (27, false)⟩,
                            ⟨some 31, .bin .eql .no (.tmp 30) (.const (.b8 58)), some (27, false)⟩,
                            ⟨some 32, .pick (.tmp 27) (.const (.bool true)) (.tmp 31), none⟩]) (
                          .cond (.tmp 32) (
                            .seq (
                              .region [
                                ⟨some 2, .mov (.const (.bool false)), none⟩]) (
                              .ret)) (
                            .skip))))) (
                    .region [
                      ⟨some 33, .bin .add .no (.tmp 14) (.const (.int .i64 1)), none⟩,
                      ⟨some 14, .mov (.tmp 33), none⟩]))))))) (
        .seq (
          .region [
            ⟨some 2, .mov (.const (.bool true)), none⟩]) (
          .ret))))) }

/-- posthorn/fields.isValue -/
def F_fields_isValue : ACFn := { nt := 35, results := [.tmp 2], body := (
  .seq (
    .region [
      ⟨some 2, .mov (.const (.bool false)), none⟩]) (
    .seq (
      .seq (
        .region [
          ⟨some 4, .mov (.tmp 0), none⟩,
          ⟨some 5, .len true (.tmp 4), none⟩,
          ⟨some 6, .mov (.const (.int .i64 0)), none⟩]) (
        .block 0 (
          .loop (
            .seq (
              .region [
                ⟨some 7, .bin .lss .no (.tmp 6) (.tmp 5), none⟩]) (
              .seq (
                .cond (.tmp 7) (
                  .skip) (
                  .exit 0)) (
                .seq (
                  .block 1 (
                    .seq (
                      .region [
                        ⟨some 8, .mov (.tmp 6), none⟩,
                        ⟨some 3, .mov (.tmp 8), none⟩]) (
                      .seq (
                        .region [
                          ⟨some 9, .mov (.tmp 0), none⟩,
                          ⟨some 10, .mov (.tmp 3), none⟩,
                          ⟨some 11, .idxS (.tmp 9) (.tmp 10), none⟩,
                          ⟨some 12, .bin .neq .no (.tmp 11) (.const (.b8 9)), none⟩,
                          ⟨some 13, .mov (.tmp 12), none⟩,
                          ⟨some 14, .mov (.tmp 0), some (13, true)⟩,
                          ⟨some 15, .mov (.tmp 3), some (13, true)⟩,
                          ⟨some 16, .idxS (.tmp 14) (.tmp 15), some (13, true)⟩,
                          ⟨some 17, .bin .lss .no (.tmp 16) (.const (.b8 32)), some (13, true)⟩,
                          ⟨some 18, .mov (.tmp 17), some (13, true)⟩,
                          ⟨some 19, .mov (.tmp 0), some (18, false)⟩,
                          ⟨some 20, .mov (.tmp 3), some (18, false)⟩,
                          ⟨some 21, .idxS (.tmp 19) (.tmp 20), some (18, false)⟩,
                          ⟨some 22, .bin .gtr .no (.tmp 21) (.const (.b8 126)), some (18, false)⟩,
                          ⟨some 23, .pick (.tmp 18) (.const (.bool true)) (.tmp 22), some (13, true)⟩,
                          ⟨some 24, .pick (.tmp 13) (.tmp 23) (.const (.bool false)), none⟩]) (
                        .cond (.tmp 24) (
                          .seq (
                            .region [
                              ⟨some 2, .mov (.const (.bool false)), none⟩]) (
                            .ret)) (
                          .skip))))) (
                  .region [
                    ⟨some 25, .bin .add .no (.tmp 6) (.const (.int .i64 1)), none⟩,
                    ⟨some 6, .mov (.tmp 25), none⟩]))))))) (
      .seq (
        .region [
          ⟨some 26, .mov (.tmp 0), none⟩,
          ⟨some 27, .len true (.tmp 26), none⟩,
          ⟨some 28, .bin .leq .no (.tmp 27) (.const (.int .i64 4096)), none⟩,
          ⟨some 29, .mov (.tmp 28), none⟩,
          ⟨some 30, .mov (.tmp 0), some (29, true)⟩,
          ⟨some 31, .call (.fn 168) [(.tmp 30)], some (29, true)⟩,
          ⟨some 32, .mov (.tmp 0), some (29, true)⟩,
          ⟨some 33, .bin .eql .no (.tmp 31) (.tmp 32), some (29, true)⟩,
          ⟨some 34, .pick (.tmp 29) (.tmp 33) (.const (.bool false)), none⟩,
          ⟨some 2, .mov (.tmp 34), none⟩]) (
        .ret)))) }

/-- posthorn/posthornref06.Name -/
def F_posthornref06_Name : ACFn := { nt := 34, results := [.tmp 2], body := (
  .seq (
    .region [
      ⟨some 2, .mov (.const (.bool false)), none⟩]) (
    .seq (
      .seq (
        .region [
          ⟨some 3, .mov (.const (.int .i64 0)), none⟩]) (
        .block 0 (
          .loop (
            .seq (
              .seq (
                .region [
                  ⟨some 4, .mov (.tmp 3), none⟩,
                  ⟨some 5, .mov (.tmp 0), none⟩,
                  ⟨some 6, .len true (.tmp 5), none⟩,
                  ⟨some 7, .bin .lss .no (.tmp 4) (.tmp 6), none⟩]) (
                .cond (.tmp 7) (
                  .skip) (
                  .exit 0))) (
              .seq (
                .block 1 (
                  .seq (
                    .region [
                      ⟨some 10, .mov (.tmp 0), none⟩,
                      ⟨some 11, .mov (.tmp 3), none⟩,
                      ⟨some 12, .idxS (.tmp 10) (.tmp 11), none⟩,
                      ⟨some 13, .bin .leq .no (.tmp 12) (.const (.b8 32)), none⟩,
                      ⟨some 14, .mov (.tmp 13), none⟩,
                      ⟨some 15, .mov (.tmp 0), some (14, false)⟩,
                      ⟨some 16, .mov (.tmp 3), some (14, false)⟩,
                      ⟨some 17, .idxS (.tmp 15) (.tmp 16), some (14, false)⟩,
                      ⟨some 18, .bin .geq .no (.tmp 17) (.const (.b8 127)), some (14, false)⟩,
                      ⟨some 19, .pick (.tmp 14) (.const (.bool true)) (.tmp 18), none⟩,
                      ⟨some 20, .mov (.tmp 19), none⟩,
                      ⟨some 21, .mov (.tmp 0), some (20, false)⟩,
                      ⟨some 22, .mov (.tmp 3), some (20, false)⟩,
                      ⟨some 23, .idxS (.tmp 21) (.tmp 22), some (20, false)⟩,
                      ⟨some 24, .bin .eql .no (.tmp 23) (.const (.b8 58)), some (20, false)⟩,
                      ⟨some 25, .pick (.tmp 20) (.const (.bool true)) (.tmp 24), none⟩]) (
                    .cond (.tmp 25) (
                      .seq (
                        .region [
                          ⟨some 2, .mov (.const (.bool false)), none⟩]) (
                        .ret)) (
                      .skip)))) (
                .region [
                  ⟨some 8, .mov (.tmp 3), none⟩,
                  ⟨some 9, .bin .add .no (.tmp 8) (.const (.int .i64 1)), none⟩,
                  ⟨some 3, .mov (.tmp 9), none⟩])))))) (
      .seq (
        .region [
          ⟨some 26, .mov (.tmp 0), none⟩,
          ⟨some 27, .len true (.tmp 26), none⟩,
          ⟨some 28, .bin .geq .no (.tmp 27) (.const (.int .i64 1)), none⟩,
          ⟨some 29, .mov (.tmp 28), none⟩,
          ⟨some 30, .mov (.tmp 0), some (29, true)⟩,
          ⟨some 31, .len true (.tmp 30), some (29, true)⟩,
          ⟨some 32, .bin .leq .no (.tmp 31) (.const (.int .i64 64)), some (29, true)⟩,
          ⟨some 33, .pick (.tmp 29) (.tmp 32) (.const (.bool false)), none⟩,
          ⟨some 2, .mov (.tmp 33), none⟩]) (
        .ret)))) }

/-- posthorn/posthornref06.Value -/
def F_posthornref06_Value : ACFn := { nt := 35, results := [.tmp 2], body := (
  .seq (
    .region [
      ⟨some 2, .mov (.const (.bool false)), none⟩]) (
    .seq (
      .seq (
        .region [
          ⟨some 3, .mov (.const (.int .i64 0)), none⟩]) (
        .block 0 (
          .loop (
            .seq (
              .seq (
                .region [
                  ⟨some 4, .mov (.tmp 3), none⟩,
                  ⟨some 5, .mov (.tmp 0), none⟩,
                  ⟨some 6, .len true (.tmp 5), none⟩,
                  ⟨some 7, .bin .lss .no (.tmp 4) (.tmp 6), none⟩]) (
                .cond (.tmp 7) (
                  .skip) (
                  .exit 0))) (
              .seq (
                .block 1 (
                  .seq (
                    .region [
                      ⟨some 10, .mov (.tmp 0), none⟩,
                      ⟨some 11, .mov (.tmp 3), none⟩,
                      ⟨some 12, .idxS (.tmp 10) (.tmp 11), none⟩,
                      ⟨some 13, .bin .lss .no (.tmp 12) (.const (.b8 32)), none⟩,
                      ⟨some 14, .mov (.tmp 13), none⟩,
                      ⟨some 15, .mov (.tmp 0), some (14, false)⟩,
                      ⟨some 16, .mov (.tmp 3), some (14, false)⟩,
                      ⟨some 17, .idxS (.tmp 15) (.tmp 16), some (14, false)⟩,
                      ⟨some 18, .bin .gtr .no (.tmp 17) (.const (.b8 126)), some (14, false)⟩,
                      ⟨some 19, .pick (.tmp 14) (.const (.bool true)) (.tmp 18), none⟩,
                      ⟨some 20, .mov (.tmp 19), none⟩,
                      ⟨some 21, .mov (.tmp 0), some (20, true)⟩,
                      ⟨some 22, .mov (.tmp 3), some (20, true)⟩,
                      ⟨some 23, .idxS (.tmp 21) (.tmp 22), some (20, true)⟩,
                      ⟨some 24, .bin .neq .no (.tmp 23) (.const (.b8 9)), some (20, true)⟩,
                      ⟨some 25, .pick (.tmp 20) (.tmp 24) (.const (.bool false)), none⟩]) (
                    .cond (.tmp 25) (
                      .seq (
                        .region [
                          ⟨some 2, .mov (.const (.bool false)), none⟩]) (
                        .ret)) (
                      .skip)))) (
                .region [
                  ⟨some 8, .mov (.tmp 3), none⟩,
                  ⟨some 9, .bin .add .no (.tmp 8) (.const (.int .i64 1)), none⟩,
                  ⟨some 3, .mov (.tmp 9), none⟩])))))) (
      .seq (
        .region [
          ⟨some 26, .mov (.tmp 0), none⟩,
          ⟨some 27, .len true (.tmp 26), none⟩,
          ⟨some 28, .bin .leq .no (.tmp 27) (.const (.int .i64 4096)), none⟩,
          ⟨some 29, .mov (.tmp 28), none⟩,
          ⟨some 30, .mov (.tmp 0), some (29, true)⟩,
          ⟨some 31, .call (.fn 170) [(.tmp 30)], some (29, true)⟩,
          ⟨some 32, .mov (.tmp 0), some (29, true)⟩,
          ⟨some 33, .bin .eql .no (.tmp 31) (.tmp 32), some (29, true)⟩,
          ⟨some 34, .pick (.tmp 29) (.tmp 33) (.const (.bool false)), none⟩,
          ⟨some 2, .mov (.tmp 34), none⟩]) (
        .ret)))) }

/-- posthorn/posthornref06.Same -/
def F_posthornref06_Same : ACFn := { nt := 10, results := [.tmp 4], body := (
  .seq (
    .region [
      ⟨some 4, .mov (.const (.bool false)), none⟩]) (
    .seq (
      .region [
        ⟨some 5, .mov (.tmp 0), none⟩,
        ⟨some 6, .call (.fn 114) [(.tmp 5)], none⟩,
        ⟨some 7, .mov (.tmp 1), none⟩,
        ⟨some 8, .call (.fn 114) [(.tmp 7)], none⟩,
        ⟨some 9, .bin .eql .no (.tmp 6) (.tmp 8), none⟩,
        ⟨some 4, .mov (.tmp 9), none⟩]) (
      .ret))) }

/-- posthorn/fields.lower -/
def F_fields_lower : ACFn := { nt := 29, results := [.tmp 2], body := (
  .seq (
    .region [
      ⟨some 2, .mov (.const (.str [])), none⟩]) (
    .seq (
      .region [
        ⟨some 6, .mov (.tmp 0), none⟩,
        ⟨some 7, .cS2B true (.tmp 6), none⟩,
        ⟨some 3, .mov (.tmp 7), none⟩]) (
      .seq (
        .seq (
          .region [
            ⟨some 8, .mov (.tmp 3), none⟩,
            ⟨some 9, .len false (.tmp 8), none⟩,
            ⟨some 10, .mov (.const (.int .i64 0)), none⟩]) (
          .block 0 (
            .loop (
              .seq (
                .region [
                  ⟨some 11, .bin .lss .no (.tmp 10) (.tmp 9), none⟩]) (
                .seq (
                  .cond (.tmp 11) (
                    .skip) (
                    .exit 0)) (
                  .seq (
                    .block 1 (
                      .seq (
                        .region [
                          ⟨some 12, .mov (.tmp 10), none⟩,
                          ⟨some 13, .iaddr 1 (.tmp 8) (.tmp 10), none⟩,
                          ⟨some 14, .load false 1 (.tmp 13), none⟩,
                          ⟨some 4, .mov (.tmp 12), none⟩,
                          ⟨some 5, .mov (.tmp 14), none⟩]) (
                        .seq (
                          .region [
                            ⟨some 15, .mov (.tmp 5), none⟩,
                            ⟨some 16, .bin .geq .no (.tmp 15) (.const (.b8 65)), none⟩,
                            ⟨some 17, .mov (.tmp 16), none⟩,
                            ⟨some 18, .mov (.tmp 5), some (17, true)⟩,
                            ⟨some 19, .bin .leq .no (.tmp 18) (.const (.b8 90)), some (17, true)⟩,
                            ⟨some 20, .pick (.tmp 17) (.tmp 19) (.const (.bool false)), none⟩]) (
                          .cond (.tmp 20) (
                            .region [
                              ⟨some 21, .mov (.tmp 3), none⟩,
                              ⟨some 22, .mov (.tmp 4), none⟩,
                              ⟨some 23, .mov (.tmp 5), none⟩,
                              ⟨some 24, .bin .add .no (.tmp 23) (.const (.b8 32)), none⟩,
                              ⟨some 25, .iaddr 1 (.tmp 21) (.tmp 22), none⟩,
                              ⟨none, .store 1 (.tmp 25) (.tmp 24), none⟩]) (
                            .skip))))) (
                    .region [
                      ⟨some 26, .bin .add .no (.tmp 10) (.const (.int .i64 1)), none⟩,
                      ⟨some 10, .mov (.tmp 26), none⟩]))))))) (
        .seq (
          .region [
            ⟨some 27, .mov (.tmp 3), none⟩,
            ⟨some 28, .cB2S true (.tmp 27), none⟩,
            ⟨some 2, .mov (.tmp 28), none⟩]) (
          .ret))))) }

/-- posthorn/fields.trim -/
def F_fields_trim : ACFn := { nt := 43, results := [.tmp 2], body := (
  .seq (
    .region [
      ⟨some 2, .mov (.const (.str [])), none⟩]) (
    .seq (
      .block 0 (
        .loop (
          .seq (
            .seq (
              .region [
                ⟨some 3, .mov (.tmp 0), none⟩,
                ⟨some 4, .len true (.tmp 3), none⟩,
                ⟨some 5, .bin .gtr .no (.tmp 4) (.const (.int .i64 0)), none⟩,
                ⟨some 6, .mov (.tmp 5), none⟩,
                ⟨some 7, .mov (.tmp 0), some (6, true)⟩,
                ⟨some 8, .idxS (.tmp 7) (.const (.int .i64 0)), some (6, true)⟩,
                ⟨some 9, .bin .eql .no (.tmp 8) (.const (.b8 32)), some (6, true)⟩,
                ⟨some 10, .mov (.tmp 9), some (6, true)⟩,
                ⟨some 11, .mov (.tmp 0), some (10, false)⟩,
                ⟨some 12, .idxS (.tmp 11) (.const (.int .i64 0)), some (10, false)⟩,
                ⟨some 13, .bin .eql .no (.tmp 12) (.const (.b8 9)), some (10, false)⟩,
                ⟨some 14, .pick (.tmp 10) (.const (.bool true)) (.tmp 13), some (6, true)⟩,
                ⟨some 15, .pick (.tmp 6) (.tmp 14) (.const (.bool false)), none⟩]) (
              .cond (.tmp 15) (
                .skip) (
                .exit 0))) (
            .block 1 (
              .region [
                ⟨some 16, .mov (.tmp 0), none⟩,
                ⟨some 17, .slc 0 (.tmp 16) (some (.const (.int .i64 1))) none none, none⟩,
                ⟨some 0, .mov (.tmp 17), none⟩]))))) (
      .seq (
        .block 2 (
          .loop (
            .seq (
              .seq (
                .region [
                  ⟨some 18, .mov (.tmp 0), none⟩,
                  ⟨some 19, .len true (.tmp 18), none⟩,
                  ⟨some 20, .bin .gtr .no (.tmp 19) (.const (.int .i64 0)), none⟩,
                  ⟨some 21, .mov (.tmp 20), none⟩,
                  ⟨some 22, .mov (.tmp 0), some (21, true)⟩,
                  ⟨some 23, .mov (.tmp 0), some (21, true)⟩,
                  ⟨some 24, .len true (.tmp 23), some (21, true)⟩,
                  ⟨some 25, .bin .sub .no (.tmp 24) (.const (.int .i64 1)), some (21, true)⟩,
                  ⟨some 26, .idxS (.tmp 22) (.tmp 25), some (21, true)⟩,
                  ⟨some 27, .bin .eql .no (.tmp 26) (.const (.b8 32)), some (21, true)⟩,
                  ⟨some 28, .mov (.tmp 27), some (21, true)⟩,
                  ⟨some 29, .mov (.tmp 0), some (28, false)⟩,
                  ⟨some 30, .mov (.tmp 0), some (28, false)⟩,
                  ⟨some 31, .len true (.tmp 30), some (28, false)⟩,
                  ⟨some 32, .bin .sub .no (.tmp 31) (.const (.int .i64 1)), some (28, false)⟩,
                  ⟨some 33, .idxS (.tmp 29) (.tmp 32), some (28, false)⟩,
                  ⟨some 34, .bin .eql .no (.tmp 33) (.const (.b8 9)), some (28, false)⟩,
                  ⟨some 35, .pick (.tmp 28) (.const (.bool true)) (.tmp 34), some (21, true)⟩,
                  ⟨some 36, .pick (.tmp 21) (.tmp 35) (.const (.bool false)), none⟩]) (
                .cond (.tmp 36) (
                  .skip) (
                  .exit 2))) (
              .block 3 (
                .region [
                  ⟨some 37, .mov (.tmp 0), none⟩,
                  ⟨some 38, .mov (.tmp 0), none⟩,
                  ⟨some 39, .len true (.tmp 38), none⟩,
                  ⟨some 40, .bin .sub .no (.tmp 39) (.const (.int .i64 1)), none⟩,
                  ⟨some 41, .slc 0 (.tmp 37) none (some (.tmp 40)) none, none⟩,
                  ⟨some 0, .mov (.tmp 41), none⟩]))))) (
        .seq (
          .region [
            ⟨some 42, .mov (.tmp 0), none⟩,
            ⟨some 2, .mov (.tmp 42), none⟩]) (
          .ret))))) }

/-- posthorn/posthornref06.Trim -/
def F_posthornref06_Trim : ACFn := { nt := 34, results := [.tmp 2], body := (
  .seq (
    .region [
      ⟨some 2, .mov (.const (.str [])), none⟩]) (
    .seq (
      .region [
        ⟨some 5, .mov (.tmp 0), none⟩,
        ⟨some 6, .len true (.tmp 5), none⟩,
        ⟨some 3, .mov (.const (.int .i64 0)), none⟩,
        ⟨some 4, .mov (.tmp 6), none⟩]) (
      .seq (
        .block 0 (
          .loop (
            .seq (
              .seq (
                .region [
                  ⟨some 7, .mov (.tmp 3), none⟩,
                  ⟨some 8, .mov (.tmp 4), none⟩,
                  ⟨some 9, .bin .lss .no (.tmp 7) (.tmp 8), none⟩,
                  ⟨some 10, .mov (.tmp 9), none⟩,
                  ⟨some 11, .mov (.tmp 0), some (10, true)⟩,
                  ⟨some 12, .mov (.tmp 3), some (10, true)⟩,
                  ⟨some 13, .idxS (.tmp 11) (.tmp 12), some (10, true)⟩,
                  ⟨some 14, .call (.fn 173) [(.tmp 13)], some (10, true)⟩,
                  ⟨some 15, .pick (.tmp 10) (.tmp 14) (.const (.bool false)), none⟩]) (
                .cond (.tmp 15) (
                  .skip) (
                  .exit 0))) (
              .block 1 (
                .region [
                  ⟨some 16, .mov (.tmp 3), none⟩,
                  ⟨some 17, .bin .add .no (.tmp 16) (.const (.int .i64 1)), none⟩,
                  ⟨some 3, .mov (.tmp 17), none⟩]))))) (
        .seq (
          .block 2 (
            .loop (
              .seq (
                .seq (
                  .region [
                    ⟨some 18, .mov (.tmp 4), none⟩,
                    ⟨some 19, .mov (.tmp 3), none⟩,
                    ⟨some 20, .bin .gtr .no (.tmp 18) (.tmp 19), none⟩,
                    ⟨some 21, .mov (.tmp 20), none⟩,
                    ⟨some 22, .mov (.tmp 0), some (21, true)⟩,
                    ⟨some 23, .mov (.tmp 4), some (21, true)⟩,
                    ⟨some 24, .bin .sub .no (.tmp 23) (.const (.int .i64 1)), some (21, true)⟩,
                    ⟨some 25, .idxS (.tmp 22) (.tmp 24), some (21, true)⟩,
                    ⟨some 26, .call (.fn 173) [(.tmp 25)], some (21, true)⟩,
                    ⟨some 27, .pick (.tmp 21) (.tmp 26) (.const (.bool false)), none⟩]) (
                  .cond (.tmp 27) (
                    .skip) (
                    .exit 2))) (
                .block 3 (
                  .region [
                    ⟨some 28, .mov (.tmp 4), none⟩,
                    ⟨some 29, .bin .sub .no (.tmp 28) (.const (.int .i64 1)), none⟩,
                    ⟨some 4, .mov (.tmp 29), none⟩]))))) (
          .seq (
            .region [
              ⟨some 30, .mov (.tmp 0), none⟩,
              ⟨some 31, .mov (.tmp 3), none⟩,
              ⟨some 32, .mov (.tmp 4), none⟩,
              ⟨some 33, .slc 0 (.tmp 30) (some (.tmp 31)) (some (.tmp 32)) none, none⟩,
              ⟨some 2, .mov (.tmp 33), none⟩]) (
            .ret)))))) }

/-- posthorn/posthornref06.blank -/
def F_posthornref06_blank : ACFn := { nt := 9, results := [.tmp 2], body := (
  .seq (
    .region [
      ⟨some 2, .mov (.const (.bool false)), none⟩]) (
    .seq (
      .region [
        ⟨some 3, .mov (.tmp 0), none⟩,
        ⟨some 4, .bin .eql .no (.tmp 3) (.const (.b8 32)), none⟩,
        ⟨some 5, .mov (.tmp 4), none⟩,
        ⟨some 6, .mov (.tmp 0), some (5, false)⟩,
        ⟨some 7, .bin .eql .no (.tmp 6) (.const (.b8 9)), some (5, false)⟩,
        ⟨some 8, .pick (.tmp 5) (.const (.bool true)) (.tmp 7), none⟩,
        ⟨some 2, .mov (.tmp 8), none⟩]) (
      .ret))) }

end Go.Ab

/-
  The abstract code of functions, printed by program (abgen.py, abput2.py).
-/
namespace Go.Ab

/-- posthorn/when.Right -/
def F_when_Right : ACFn := { nt := 9, results := [.tmp 2], body := (
  .seq (
    .region [
      ⟨some 2, .mov (.const (.bool false)), none⟩]) (
    .seq (
      .region [
        ⟨some 3, .mov (.tmp 0), none⟩,
        ⟨some 4, .bin .geq .no (.tmp 3) (.const (.int .i64 0)), none⟩,
        ⟨some 5, .mov (.tmp 4), none⟩,
        ⟨some 6, .mov (.tmp 0), some (5, true)⟩,
        ⟨some 7, .bin .leq .no (.tmp 6) (.const (.int .i64 253402300799)), some (5, true)⟩,
        ⟨some 8, .pick (.tmp 5) (.tmp 7) (.const (.bool false)), none⟩,
        ⟨some 2, .mov (.tmp 8), none⟩]) (
      .ret))) }

/-- posthorn/posthornref12.Time -/
def F_posthornref12_Time : ACFn := { nt := 9, results := [.tmp 2], body := (
  .seq (
    .region [
      ⟨some 2, .mov (.const (.bool false)), none⟩]) (
    .seq (
      .region [
        ⟨some 3, .mov (.tmp 0), none⟩,
        ⟨some 4, .bin .geq .no (.tmp 3) (.const (.int .i64 0)), none⟩,
        ⟨some 5, .mov (.tmp 4), none⟩,
        ⟨some 6, .mov (.tmp 0), some (5, true)⟩,
        ⟨some 7, .bin .lss .no (.tmp 6) (.const (.int .i64 253402300800)), some (5, true)⟩,
        ⟨some 8, .pick (.tmp 5) (.tmp 7) (.const (.bool false)), none⟩,
        ⟨some 2, .mov (.tmp 8), none⟩]) (
      .ret))) }

/-- posthorn/posthornref07.Plain -/
def F_posthornref07_Plain : ACFn := { nt := 24, results := [.cell 2 true 3, .tmp 3], body := (
  .seq (
    .region [
      ⟨some 2, .alloc [.str [], .str [], .str []], none⟩,
      ⟨some 3, .mov (.const (.int .i64 0)), none⟩]) (
    .seq (
      .region [
        ⟨some 6, .mov (.tmp 0), none⟩,
        ⟨some 7, .call (.fn 215) [(.tmp 6), (.const (.b8 64))], none⟩,
        ⟨some 4, .mov (.tmp 7), none⟩]) (
      .seq (
        .seq (
          .region [
            ⟨some 8, .mov (.tmp 4), none⟩,
            ⟨some 9, .len false (.tmp 8), none⟩,
            ⟨some 10, .bin .neq .no (.tmp 9) (.const (.int .i64 2)), none⟩]) (
          .cond (.tmp 10) (
            .seq (
              .region [
                ⟨some 11, .build [.str [], .str [], .str []] [], none⟩,
                ⟨none, .store 3 (.tmp 2) (.tmp 11), none⟩,
                ⟨some 3, .mov (.const (.int .i64 60)), none⟩]) (
              .ret)) (
            .skip))) (
        .seq (
          .region [
            ⟨some 12, .mov (.tmp 4), none⟩,
            ⟨some 13, .iaddr 1 (.tmp 12) (.const (.int .i64 0)), none⟩,
            ⟨some 14, .loadc false 1 (.tmp 13), none⟩,
            ⟨some 15, .mov (.tmp 4), none⟩,
            ⟨some 16, .iaddr 1 (.tmp 15) (.const (.int .i64 1)), none⟩,
            ⟨some 17, .loadc false 1 (.tmp 16), none⟩,
            ⟨some 18, .build [.str [], .str [], .str []] [(1, 1, (.tmp 14)), (2, 1, (.tmp 17))], none⟩,
            ⟨some 5, .alloc [.str [], .str [], .str []], none⟩,
            ⟨none, .store 3 (.tmp 5) (.tmp 18), none⟩]) (
          .seq (
            .seq (
              .region [
                ⟨some 19, .load true 3 (.tmp 5), none⟩,
                ⟨some 20, .call (.fn 216) [(.tmp 19)], none⟩,
                ⟨some 21, .un .not (.tmp 20), none⟩]) (
              .cond (.tmp 21) (
                .seq (
                  .region [
                    ⟨some 22, .build [.str [], .str [], .str []] [], none⟩,
                    ⟨none, .store 3 (.tmp 2) (.tmp 22), none⟩,
                    ⟨some 3, .mov (.const (.int .i64 60)), none⟩]) (
                  .ret)) (
                .skip))) (
            .seq (
              .region [
                ⟨some 23, .load true 3 (.tmp 5), none⟩,
                ⟨none, .store 3 (.tmp 2) (.tmp 23), none⟩,
                ⟨some 3, .mov (.const (.int .i64 0)), none⟩]) (
              .ret))))))) }

/-- posthorn/posthornref04.Parts -/
def F_posthornref04_Parts : ACFn := { nt := 35, results := [.tmp 4], body := (
  .seq (
    .region [
      ⟨some 4, .mov (.const (.nils)), none⟩]) (
    .seq (
      .region [
        ⟨some 5, .mov (.const (.nils)), none⟩]) (
      .seq (
        .region [
          ⟨some 6, .mov (.const (.int .i64 0)), none⟩]) (
        .seq (
          .seq (
            .region [
              ⟨some 7, .mov (.const (.int .i64 0)), none⟩]) (
            .block 0 (
              .loop (
                .seq (
                  .seq (
                    .region [
                      ⟨some 8, .mov (.tmp 7), none⟩,
                      ⟨some 9, .mov (.tmp 0), none⟩,
                      ⟨some 10, .len true (.tmp 9), none⟩,
                      ⟨some 11, .bin .leq .no (.tmp 8) (.tmp 10), none⟩]) (
                    .cond (.tmp 11) (
                      .skip) (
                      .exit 0))) (
                  .seq (
                    .block 1 (
                      .seq (
                        .region [
                          ⟨some 14, .mov (.tmp 7), none⟩,
                          ⟨some 15, .mov (.tmp 0), none⟩,
                          ⟨some 16, .len true (.tmp 15), none⟩,
                          ⟨some 17, .bin .eql .no (.tmp 14) (.tmp 16), none⟩,
                          ⟨some 18, .mov (.tmp 17), none⟩,
                          ⟨some 19, .mov (.tmp 0), some (18, false)⟩,
                          ⟨some 20, .mov (.tmp 7), some (18, false)⟩,
                          ⟨some 21, .idxS (.tmp 19) (.tmp 20), some (18, false)⟩,
                          ⟨some 22, .mov (.tmp 1), some (18, false)⟩,
                          ⟨some 23, .bin .eql .no (.tmp 21) (.tmp 22), some (18, false)⟩,
                          ⟨some 24, .pick (.tmp 18) (.const (.bool true)) (.tmp 23), none⟩]) (
                        .cond (.tmp 24) (
                          .seq (
                            .region [
                              ⟨some 25, .mov (.tmp 5), none⟩,
                              ⟨some 26, .mov (.tmp 0), none⟩,
                              ⟨some 27, .mov (.tmp 6), none⟩,
                              ⟨some 28, .mov (.tmp 7), none⟩,
                              ⟨some 29, .slc 0 (.tmp 26) (some (.tmp 27)) (some (.tmp 28)) none, none⟩,
                              ⟨some 30, .lit 1 (.str []) 1 [(0, (.tmp 29))], none⟩,
                              ⟨some 31, .app false 1 (.tmp 25) (.tmp 30), none⟩,
                              ⟨some 5, .mov (.tmp 31), none⟩]) (
                            .region [
                              ⟨some 32, .mov (.tmp 7), none⟩,
                              ⟨some 33, .bin .add .no (.tmp 32) (.const (.int .i64 1)), none⟩,
                              ⟨some 6, .mov (.tmp 33), none⟩])) (
                          .skip)))) (
                    .region [
                      ⟨some 12, .mov (.tmp 7), none⟩,
                      ⟨some 13, .bin .add .no (.tmp 12) (.const (.int .i64 1)), none⟩,
                      ⟨some 7, .mov (.tmp 13), none⟩])))))) (
          .seq (
            .region [
              ⟨some 34, .mov (.tmp 5), none⟩,
              ⟨some 4, .mov (.tmp 34), none⟩]) (
            .ret)))))) }

/-- posthorn/posthornref07.Right -/
def F_posthornref07_Right : ACFn := { nt := 43, results := [.tmp 2], body := (
  .seq (
    .region [
      ⟨some 1, .boxc (.tmp 0), none⟩,
      ⟨some 2, .mov (.const (.bool false)), none⟩]) (
    .seq (
      .seq (
        .region [
          ⟨some 3, .mov (.const (.int .i64 0)), none⟩]) (
        .block 0 (
          .loop (
            .seq (
              .seq (
                .region [
                  ⟨some 4, .mov (.tmp 3), none⟩,
                  ⟨some 5, .faddr 0 (.tmp 1), none⟩,
                  ⟨some 6, .loadc false 1 (.tmp 5), none⟩,
                  ⟨some 7, .len true (.tmp 6), none⟩,
                  ⟨some 8, .bin .lss .no (.tmp 4) (.tmp 7), none⟩]) (
                .cond (.tmp 8) (
                  .skip) (
                  .exit 0))) (
              .seq (
                .block 1 (
                  .seq (
                    .region [
                      ⟨some 11, .faddr 0 (.tmp 1), none⟩,
                      ⟨some 12, .loadc false 1 (.tmp 11), none⟩,
                      ⟨some 13, .mov (.tmp 3), none⟩,
                      ⟨some 14, .idxS (.tmp 12) (.tmp 13), none⟩,
                      ⟨some 15, .bin .lss .no (.tmp 14) (.const (.b8 32)), none⟩,
                      ⟨some 16, .mov (.tmp 15), none⟩,
                      ⟨some 17, .faddr 0 (.tmp 1), some (16, false)⟩,
                      ⟨some 18, .loadc false 1 (.tmp 17), some (16, false)⟩,
                      ⟨some 19, .mov (.tmp 3), some (16, false)⟩,
                      ⟨some 20, .idxS (.tmp 18) (.tmp 19), some (16, false)⟩,
                      ⟨some 21, .bin .gtr .no (.tmp 20) (.const (.b8 126)), some (16, false)⟩,
                      ⟨some 22, .pick (.tmp 16) (.const (.bool true)) (.tmp 21), none⟩]) (
                    .cond (.tmp 22) (
                      .seq (
                        .region [
                          ⟨some 2, .mov (.const (.bool false)), none⟩]) (
                        .ret)) (
                      .skip)))) (
                .region [
                  ⟨some 9, .mov (.tmp 3), none⟩,
                  ⟨some 10, .bin .add .no (.tmp 9) (.const (.int .i64 1)), none⟩,
                  ⟨some 3, .mov (.tmp 10), none⟩])))))) (
      .seq (
        .region [
          ⟨some 23, .faddr 0 (.tmp 1), none⟩,
          ⟨some 24, .loadc false 1 (.tmp 23), none⟩,
          ⟨some 25, .len true (.tmp 24), none⟩,
          ⟨some 26, .bin .leq .no (.tmp 25) (.const (.int .i64 128)), none⟩,
          ⟨some 27, .mov (.tmp 26), none⟩,
          ⟨some 28, .faddr 1 (.tmp 1), some (27, true)⟩,
          ⟨some 29, .loadc false 1 (.tmp 28), some (27, true)⟩,
          ⟨some 30, .len true (.tmp 29), some (27, true)⟩,
          ⟨some 31, .bin .leq .no (.tmp 30) (.const (.int .i64 64)), some (27, true)⟩,
          ⟨some 32, .pick (.tmp 27) (.tmp 31) (.const (.bool false)), none⟩,
          ⟨some 33, .mov (.tmp 32), none⟩,
          ⟨some 34, .faddr 1 (.tmp 1), some (33, true)⟩,
          ⟨some 35, .loadc false 1 (.tmp 34), some (33, true)⟩,
          ⟨some 36, .call (.fn 217) [(.tmp 35), (.const (.b8 46))], some (33, true)⟩,
          ⟨some 37, .pick (.tmp 33) (.tmp 36) (.const (.bool false)), none⟩,
          ⟨some 38, .mov (.tmp 37), none⟩,
          ⟨some 39, .faddr 2 (.tmp 1), some (38, true)⟩,
          ⟨some 40, .loadc false 1 (.tmp 39), some (38, true)⟩,
          ⟨some 41, .call (.fn 218) [(.tmp 40)], some (38, true)⟩,
          ⟨some 42, .pick (.tmp 38) (.tmp 41) (.const (.bool false)), none⟩,
          ⟨some 2, .mov (.tmp 42), none⟩]) (
        .ret)))) }

/-- posthorn/posthornref07.atoms -/
def F_posthornref07_atoms : ACFn := { nt := 22, results := [.tmp 4], body := (
  .seq (
    .region [
      ⟨some 4, .mov (.const (.bool false)), none⟩]) (
    .seq (
      .region [
        ⟨some 7, .mov (.tmp 0), none⟩,
        ⟨some 8, .mov (.tmp 1), none⟩,
        ⟨some 9, .call (.fn 215) [(.tmp 7), (.tmp 8)], none⟩,
        ⟨some 5, .mov (.tmp 9), none⟩]) (
      .seq (
        .seq (
          .region [
            ⟨some 6, .mov (.const (.int .i64 0)), none⟩]) (
          .block 0 (
            .loop (
              .seq (
                .seq (
                  .region [
                    ⟨some 10, .mov (.tmp 6), none⟩,
                    ⟨some 11, .mov (.tmp 5), none⟩,
                    ⟨some 12, .len false (.tmp 11), none⟩,
                    ⟨some 13, .bin .lss .no (.tmp 10) (.tmp 12), none⟩]) (
                  .cond (.tmp 13) (
                    .skip) (
                    .exit 0))) (
                .seq (
                  .block 1 (
                    .seq (
                      .region [
                        ⟨some 16, .mov (.tmp 5), none⟩,
                        ⟨some 17, .mov (.tmp 6), none⟩,
                        ⟨some 18, .iaddr 1 (.tmp 16) (.tmp 17), none⟩,
                        ⟨some 19, .load false 1 (.tmp 18), none⟩,
                        ⟨some 20, .call (.fn 219) [(.tmp 19)], none⟩,
                        ⟨some 21, .un .not (.tmp 20), none⟩]) (
                      .cond (.tmp 21) (
                        .seq (
                          .region [
                            ⟨some 4, .mov (.const (.bool false)), none⟩]) (
                          .ret)) (
                        .skip)))) (
                  .region [
                    ⟨some 14, .mov (.tmp 6), none⟩,
                    ⟨some 15, .bin .add .no (.tmp 14) (.const (.int .i64 1)), none⟩,
                    ⟨some 6, .mov (.tmp 15), none⟩])))))) (
        .seq (
          .region [
            ⟨some 4, .mov (.const (.bool true)), none⟩]) (
          .ret))))) }

/-- posthorn/posthornref07.Domain -/
def F_posthornref07_Domain : ACFn := { nt := 60, results := [.tmp 2], body := (
  .seq (
    .region [
      ⟨some 2, .mov (.const (.bool false)), none⟩]) (
    .seq (
      .region [
        ⟨some 7, .mov (.tmp 0), none⟩,
        ⟨some 8, .call (.fn 215) [(.tmp 7), (.const (.b8 46))], none⟩,
        ⟨some 3, .mov (.tmp 8), none⟩]) (
      .seq (
        .seq (
          .region [
            ⟨some 4, .mov (.const (.int .i64 0)), none⟩]) (
          .block 0 (
            .loop (
              .seq (
                .seq (
                  .region [
                    ⟨some 9, .mov (.tmp 4), none⟩,
                    ⟨some 10, .mov (.tmp 3), none⟩,
                    ⟨some 11, .len false (.tmp 10), none⟩,
                    ⟨some 12, .bin .lss .no (.tmp 9) (.tmp 11), none⟩]) (
                  .cond (.tmp 12) (
                    .skip) (
                    .exit 0))) (
                .seq (
                  .block 1 (
                    .seq (
                      .region [
                        ⟨some 15, .mov (.tmp 3), none⟩,
                        ⟨some 16, .mov (.tmp 4), none⟩,
                        ⟨some 17, .iaddr 1 (.tmp 15) (.tmp 16), none⟩,
                        ⟨some 18, .load false 1 (.tmp 17), none⟩,
                        ⟨some 5, .mov (.tmp 18), none⟩]) (
                      .seq (
                        .seq (
                          .region [
                            ⟨some 19, .mov (.tmp 5), none⟩,
                            ⟨some 20, .len true (.tmp 19), none⟩,
                            ⟨some 21, .bin .eql .no (.tmp 20) (.const (.int .i64 0)), none⟩,
                            ⟨some 22, .mov (.tmp 21), none⟩,
                            ⟨some 23, .mov (.tmp 5), some (22, false)⟩,
                            ⟨some 24, .len true (.tmp 23), some (22, false)⟩,
                            ⟨some 25, .bin .gtr .no (.tmp 24) (.const (.int .i64 63)), some (22, false)⟩,
                            ⟨some 26, .pick (.tmp 22) (.const (.bool true)) (.tmp 25), none⟩,
                            ⟨some 27, .mov (.tmp 26), none⟩,
                            ⟨some 28, .mov (.tmp 5), some (27, false)⟩,
                            ⟨some 29, .idxS (.tmp 28) (.const (.int .i64 0)), some (27, false)⟩,
                            ⟨some 30, .bin .eql .no (.tmp 29) (.const (.b8 45)), some (27, false)⟩,
                            ⟨some 31, .pick (.tmp 27) (.const (.bool true)) (.tmp 30), none⟩,
                            ⟨some 32, .mov (.tmp 31), none⟩,
                            ⟨some 33, .mov (.tmp 5), some (32, false)⟩,
                            ⟨some 34, .mov (.tmp 5), some (32, false)⟩,
                            ⟨some 35, .len true (.tmp 34), some (32, false)⟩,
                            ⟨some 36, .bin .sub .no (.tmp 35) (.const (.int .i64 1)), some (32, false)⟩,
                            ⟨some 37, .idxS (.tmp 33) (.tmp 36), some (32, false)⟩,
                            ⟨some 38, .bin .eql .no (.tmp 37) (.const (.b8 45)), some (32, false)⟩,
                            ⟨some 39, .pick (.tmp 32) (.const (.bool true)) (.tmp 38), none⟩]) (
                          .cond (.tmp 39) (
                            .seq (
                              .region [
                                ⟨some 2, .mov (.const (.bool false)), none⟩]) (
                              .ret)) (
                            .skip))) (
                        .seq (
                          .region [
                            ⟨some 6, .mov (.const (.int .i64 0)), none⟩]) (
                          .block 2 (
                            .loop (
                              .seq (
                                .seq (
                                  .region [
                                    ⟨some 40, .mov (.tmp 6), none⟩,
                                    ⟨some 41, .mov (.tmp 5), none⟩,
                                    ⟨some 42, .len true (.tmp 41), none⟩,
                                    ⟨some 43, .bin .lss .no (.tmp 40) (.tmp 42), none⟩]) (
                                  .cond (.tmp 43) (
                                    .skip) (
                                    .exit 2))) (
                                .seq (
                                  .block 3 (
                                    .seq (
                                      .region [
                                        ⟨some 46, .mov (.tmp 5), none⟩,
                                        ⟨some 47, .mov (.tmp 6), none⟩,
                                        ⟨some 48, .idxS (.tmp 46) (.tmp 47), none⟩,
                                        ⟨some 49, .call (.fn 220) [(.tmp 48)], none⟩,
                                        ⟨some 50, .un .not (.tmp 49), none⟩,
                                        ⟨some 51, .mov (.tmp 50), none⟩,
                                        ⟨some 52, .mov (.tmp 5), some (51, true)⟩,
                                        ⟨some 53, .mov (.tmp 6), some (51, true)⟩,
                                        ⟨some 54, .idxS (.tmp 52) (.tmp 53), some (51, true)⟩,
                                        ⟨some 55, .bin .neq .no (.tmp 54) (.const (.b8 45)), some (51, true)⟩,
                                        ⟨some 56, .pick (.tmp 51) (.tmp 55) (.const (.bool false)), none⟩]) (
                                      .cond (.tmp 56) (
                                        .seq (
                                          .region [
                                            ⟨some 2, .mov (.const (.bool false)), none⟩]) (
                                          .ret)) (
                                        .skip)))) (
                                  .region [
                                    ⟨some 44, .mov (.tmp 6), none⟩,
                                    ⟨some 45, .bin .add .no (.tmp 44) (.const (.int .i64 1)), none⟩,
                                    ⟨some 6, .mov (.tmp 45), none⟩]))))))))) (
                  .region [
                    ⟨some 13, .mov (.tmp 4), none⟩,
                    ⟨some 14, .bin .add .no (.tmp 13) (.const (.int .i64 1)), none⟩,
                    ⟨some 4, .mov (.tmp 14), none⟩])))))) (
        .seq (
          .region [
            ⟨some 57, .mov (.tmp 0), none⟩,
            ⟨some 58, .len true (.tmp 57), none⟩,
            ⟨some 59, .bin .leq .no (.tmp 58) (.const (.int .i64 253)), none⟩,
            ⟨some 2, .mov (.tmp 59), none⟩]) (
          .ret))))) }

/-- posthorn/posthornref07.Atom -/
def F_posthornref07_Atom : ACFn := { nt := 27, results := [.tmp 2], body := (
  .seq (
    .region [
      ⟨some 2, .mov (.const (.bool false)), none⟩]) (
    .seq (
      .seq (
        .region [
          ⟨some 3, .mov (.const (.int .i64 0)), none⟩]) (
        .block 0 (
          .loop (
            .seq (
              .seq (
                .region [
                  ⟨some 4, .mov (.tmp 3), none⟩,
                  ⟨some 5, .mov (.tmp 0), none⟩,
                  ⟨some 6, .len true (.tmp 5), none⟩,
                  ⟨some 7, .bin .lss .no (.tmp 4) (.tmp 6), none⟩]) (
                .cond (.tmp 7) (
                  .skip) (
                  .exit 0))) (
              .seq (
                .block 1 (
                  .seq (
                    .region [
                      ⟨some 10, .mov (.tmp 0), none⟩,
                      ⟨some 11, .mov (.tmp 3), none⟩,
                      ⟨some 12, .idxS (.tmp 10) (.tmp 11), none⟩,
                      ⟨some 13, .call (.fn 220) [(.tmp 12)], none⟩,
                      ⟨some 14, .un .not (.tmp 13), none⟩,
                      ⟨some 15, .mov (.tmp 14), none⟩,
                      ⟨some 16, .mov (.tmp 0), some (15, true)⟩,
                      ⟨some 17, .mov (.tmp 3), some (15, true)⟩,
                      ⟨some 18, .mov (.tmp 3), some (15, true)⟩,
                      ⟨some 19, .bin .add .no (.tmp 18) (.const (.int .i64 1)), some (15, true)⟩,
                      ⟨some 20, .slc 0 (.tmp 16) (some (.tmp 17)) (some (.tmp 19)) none, some (15, true)⟩,
                      ⟨some 21, .call (.fn 56) [(.const (.str [33, 35, 36, 37, 38, 39, 42, 43, 45, 47, 61, 63, 94, 95, 123, 124, 125, 126, 96])), (.tmp 20)], some (15, true)⟩,
                      ⟨some 22, .un .not (.tmp 21), some (15, true)⟩,
                      ⟨some 23, .pick (.tmp 15) (.tmp 22) (.const (.bool false)), none⟩]) (
                    .cond (.tmp 23) (
                      .seq (
                        .region [
                          ⟨some 2, .mov (.const (.bool false)), none⟩]) (
                        .ret)) (
                      .skip)))) (
                .region [
                  ⟨some 8, .mov (.tmp 3), none⟩,
                  ⟨some 9, .bin .add .no (.tmp 8) (.const (.int .i64 1)), none⟩,
                  ⟨some 3, .mov (.tmp 9), none⟩])))))) (
      .seq (
        .region [
          ⟨some 24, .mov (.tmp 0), none⟩,
          ⟨some 25, .len true (.tmp 24), none⟩,
          ⟨some 26, .bin .gtr .no (.tmp 25) (.const (.int .i64 0)), none⟩,
          ⟨some 2, .mov (.tmp 26), none⟩]) (
        .ret)))) }

/-- posthorn/posthornref07.Letter -/
def F_posthornref07_Letter : ACFn := { nt := 25, results := [.tmp 2], body := (
  .seq (
    .region [
      ⟨some 2, .mov (.const (.bool false)), none⟩]) (
    .seq (
      .region [
        ⟨some 3, .mov (.tmp 0), none⟩,
        ⟨some 4, .bin .geq .no (.tmp 3) (.const (.b8 48)), none⟩,
        ⟨some 5, .mov (.tmp 4), none⟩,
        ⟨some 6, .mov (.tmp 0), some (5, true)⟩,
        ⟨some 7, .bin .leq .no (.tmp 6) (.const (.b8 57)), some (5, true)⟩,
        ⟨some 8, .pick (.tmp 5) (.tmp 7) (.const (.bool false)), none⟩,
        ⟨some 9, .mov (.tmp 8), none⟩,
        ⟨some 10, .mov (.tmp 0), some (9, false)⟩,
        ⟨some 11, .bin .geq .no (.tmp 10) (.const (.b8 65)), some (9, false)⟩,
        ⟨some 12, .mov (.tmp 11), some (9, false)⟩,
        ⟨some 13, .mov (.tmp 0), some (12, true)⟩,
        ⟨some 14, .bin .leq .no (.tmp 13) (.const (.b8 90)), some (12, true)⟩,
        ⟨some 15, .pick (.tmp 12) (.tmp 14) (.const (.bool false)), some (9, false)⟩,
        ⟨some 16, .pick (.tmp 9) (.const (.bool true)) (.tmp 15), none⟩,
        ⟨some 17, .mov (.tmp 16), none⟩,
        ⟨some 18, .mov (.tmp 0), some (17, false)⟩,
        ⟨some 19, .bin .geq .no (.tmp 18) (.const (.b8 97)), some (17, false)⟩,
        ⟨some 20, .mov (.tmp 19), some (17, false)⟩,
        ⟨some 21, .mov (.tmp 0), some (20, true)⟩,
        ⟨some 22, .bin .leq .no (.tmp 21) (.const (.b8 122)), some (20, true)⟩,
        ⟨some 23, .pick (.tmp 20) (.tmp 22) (.const (.bool false)), some (17, false)⟩,
        ⟨some 24, .pick (.tmp 17) (.const (.bool true)) (.tmp 23), none⟩,
        ⟨some 2, .mov (.tmp 24), none⟩]) (
      .ret))) }

end Go.Ab

/-
  The abstract code of functions, printed by program (abgen.py, abput2.py).
-/
namespace Go.Ab

/-- posthorn/date.Print -/
def F_date_Print : ACFn := { nt := 101, results := [.tmp 4, .tmp 5], body := (
  .seq (
    .region [
      ⟨some 4, .mov (.const (.str [])), none⟩,
      ⟨some 5, .mov (.const (.int .i64 0)), none⟩]) (
    .seq (
      .seq (
        .region [
          ⟨some 16, .mov (.tmp 0), none⟩,
          ⟨some 17, .call (.fn 199) [(.tmp 16)], none⟩,
          ⟨some 18, .un .not (.tmp 17), none⟩,
          ⟨some 19, .mov (.tmp 18), none⟩,
          ⟨some 20, .mov (.tmp 1), some (19, false)⟩,
          ⟨some 21, .call (.fn 274) [(.tmp 20)], some (19, false)⟩,
          ⟨some 22, .un .not (.tmp 21), some (19, false)⟩,
          ⟨some 23, .pick (.tmp 19) (.const (.bool true)) (.tmp 22), none⟩,
          ⟨some 24, .mov (.tmp 23), none⟩,
          ⟨some 25, .mov (.tmp 0), some (24, false)⟩,
          ⟨some 26, .mov (.tmp 1), some (24, false)⟩,
          ⟨some 27, .bin .add .no (.tmp 25) (.tmp 26), some (24, false)⟩,
          ⟨some 28, .call (.fn 199) [(.tmp 27)], some (24, false)⟩,
          ⟨some 29, .un .not (.tmp 28), some (24, false)⟩,
          ⟨some 30, .pick (.tmp 24) (.const (.bool true)) (.tmp 29), none⟩]) (
        .cond (.tmp 30) (
          .seq (
            .region [
              ⟨some 4, .mov (.const (.str [])), none⟩,
              ⟨some 5, .mov (.const (.int .i64 110)), none⟩]) (
            .ret)) (
          .skip))) (
      .seq (
        .region [
          ⟨some 31, .mov (.tmp 0), none⟩,
          ⟨some 32, .mov (.tmp 1), none⟩,
          ⟨some 33, .bin .add .no (.tmp 31) (.tmp 32), none⟩,
          ⟨some 6, .mov (.tmp 33), none⟩]) (
        .seq (
          .region [
            ⟨some 35, .mov (.tmp 6), none⟩,
            ⟨some 36, .bin .quo .no (.tmp 35) (.const (.int .i64 86400)), none⟩,
            ⟨some 37, .call (.fn 275) [(.tmp 36)], none⟩,
            ⟨some 34, .mov (.tmp 37), none⟩,
            ⟨some 38, .ext 0 (.tmp 34), none⟩,
            ⟨some 39, .ext 1 (.tmp 34), none⟩,
            ⟨some 40, .ext 2 (.tmp 34), none⟩,
            ⟨some 41, .ext 3 (.tmp 34), none⟩,
            ⟨some 7, .mov (.tmp 38), none⟩,
            ⟨some 8, .mov (.tmp 39), none⟩,
            ⟨some 9, .mov (.tmp 40), none⟩,
            ⟨some 10, .mov (.tmp 41), none⟩]) (
          .seq (
            .region [
              ⟨some 43, .mov (.tmp 6), none⟩,
              ⟨some 44, .bin .quo .no (.tmp 43) (.const (.int .i64 86400)), none⟩,
              ⟨some 45, .call (.fn 258) [(.tmp 44)], none⟩,
              ⟨some 42, .mov (.tmp 45), none⟩,
              ⟨some 46, .ext 0 (.tmp 42), none⟩,
              ⟨some 47, .ext 1 (.tmp 42), none⟩,
              ⟨some 11, .mov (.tmp 46), none⟩,
              ⟨some 12, .mov (.tmp 47), none⟩]) (
            .seq (
              .region [
                ⟨some 48, .mov (.tmp 6), none⟩,
                ⟨some 49, .bin .rem .no (.tmp 48) (.const (.int .i64 86400)), none⟩,
                ⟨some 13, .mov (.tmp 49), none⟩]) (
              .seq (
                .region [
                  ⟨some 14, .mov (.const (.str [43])), none⟩]) (
                .seq (
                  .seq (
                    .region [
                      ⟨some 50, .mov (.tmp 1), none⟩,
                      ⟨some 51, .bin .lss .no (.tmp 50) (.const (.int .i64 0)), none⟩]) (
                    .cond (.tmp 51) (
                      .region [
                        ⟨some 52, .mov (.tmp 1), none⟩,
                        ⟨some 53, .un .neg (.tmp 52), none⟩,
                        ⟨some 14, .mov (.const (.str [45])), none⟩,
                        ⟨some 1, .mov (.tmp 53), none⟩]) (
                      .skip))) (
                  .seq (
                    .region [
                      ⟨some 54, .mov (.tmp 13), none⟩,
                      ⟨some 55, .bin .quo .no (.tmp 54) (.const (.int .i64 3600)), none⟩,
                      ⟨some 56, .call (.fn 276) [(.tmp 55)], none⟩,
                      ⟨some 57, .bin .add .no (.tmp 56) (.const (.str [58])), none⟩,
                      ⟨some 58, .mov (.tmp 13), none⟩,
                      ⟨some 59, .bin .quo .no (.tmp 58) (.const (.int .i64 60)), none⟩,
                      ⟨some 60, .bin .rem .no (.tmp 59) (.const (.int .i64 60)), none⟩,
                      ⟨some 61, .call (.fn 276) [(.tmp 60)], none⟩,
                      ⟨some 62, .bin .add .no (.tmp 57) (.tmp 61), none⟩,
                      ⟨some 63, .bin .add .no (.tmp 62) (.const (.str [58])), none⟩,
                      ⟨some 64, .mov (.tmp 13), none⟩,
                      ⟨some 65, .bin .rem .no (.tmp 64) (.const (.int .i64 60)), none⟩,
                      ⟨some 66, .call (.fn 276) [(.tmp 65)], none⟩,
                      ⟨some 67, .bin .add .no (.tmp 63) (.tmp 66), none⟩,
                      ⟨some 15, .mov (.tmp 67), none⟩]) (
                    .seq (
                      .region [
                        ⟨some 68, .mov (.tmp 11), none⟩,
                        ⟨some 69, .call (.fn 277) [(.tmp 68)], none⟩,
                        ⟨some 70, .bin .add .no (.tmp 69) (.const (.str [44, 32])), none⟩,
                        ⟨some 71, .mov (.tmp 9), none⟩,
                        ⟨some 72, .call (.fn 276) [(.tmp 71)], none⟩,
                        ⟨some 73, .bin .add .no (.tmp 70) (.tmp 72), none⟩,
                        ⟨some 74, .bin .add .no (.tmp 73) (.const (.str [32])), none⟩,
                        ⟨some 75, .mov (.tmp 8), none⟩,
                        ⟨some 76, .call (.fn 278) [(.tmp 75)], none⟩,
                        ⟨some 77, .bin .add .no (.tmp 74) (.tmp 76), none⟩,
                        ⟨some 78, .bin .add .no (.tmp 77) (.const (.str [32])), none⟩,
                        ⟨some 79, .mov (.tmp 7), none⟩,
                        ⟨some 80, .bin .quo .no (.tmp 79) (.const (.int .i64 100)), none⟩,
                        ⟨some 81, .call (.fn 276) [(.tmp 80)], none⟩,
                        ⟨some 82, .bin .add .no (.tmp 78) (.tmp 81), none⟩,
                        ⟨some 83, .mov (.tmp 7), none⟩,
                        ⟨some 84, .call (.fn 276) [(.tmp 83)], none⟩,
                        ⟨some 85, .bin .add .no (.tmp 82) (.tmp 84), none⟩,
                        ⟨some 86, .bin .add .no (.tmp 85) (.const (.str [32])), none⟩,
                        ⟨some 87, .mov (.tmp 15), none⟩,
                        ⟨some 88, .bin .add .no (.tmp 86) (.tmp 87), none⟩,
                        ⟨some 89, .bin .add .no (.tmp 88) (.const (.str [32])), none⟩,
                        ⟨some 90, .mov (.tmp 14), none⟩,
                        ⟨some 91, .bin .add .no (.tmp 89) (.tmp 90), none⟩,
                        ⟨some 92, .mov (.tmp 1), none⟩,
                        ⟨some 93, .bin .quo .no (.tmp 92) (.const (.int .i64 3600)), none⟩,
                        ⟨some 94, .call (.fn 276) [(.tmp 93)], none⟩,
                        ⟨some 95, .bin .add .no (.tmp 91) (.tmp 94), none⟩,
                        ⟨some 96, .mov (.tmp 1), none⟩,
                        ⟨some 97, .bin .quo .no (.tmp 96) (.const (.int .i64 60)), none⟩,
                        ⟨some 98, .bin .rem .no (.tmp 97) (.const (.int .i64 60)), none⟩,
                        ⟨some 99, .call (.fn 276) [(.tmp 98)], none⟩,
                        ⟨some 100, .bin .add .no (.tmp 95) (.tmp 99), none⟩,
                        ⟨some 4, .mov (.tmp 100), none⟩,
                        ⟨some 5, .mov (.const (.int .i64 0)), none⟩]) (
                      .ret))))))))))) }

/-- posthorn/date.Weekday -/
def F_date_Weekday : ACFn := { nt := 13, results := [.tmp 2, .tmp 3], body := (
  .seq (
    .region [
      ⟨some 2, .mov (.const (.int .i64 0)), none⟩,
      ⟨some 3, .mov (.const (.int .i64 0)), none⟩]) (
    .seq (
      .seq (
        .region [
          ⟨some 4, .mov (.tmp 0), none⟩,
          ⟨some 5, .bin .lss .no (.tmp 4) (.const (.int .i64 0)), none⟩,
          ⟨some 6, .mov (.tmp 5), none⟩,
          ⟨some 7, .mov (.tmp 0), some (6, false)⟩,
          ⟨some 8, .bin .gtr .no (.tmp 7) (.const (.int .i64 2932896)), some (6, false)⟩,
          ⟨some 9, .pick (.tmp 6) (.const (.bool true)) (.tmp 8), none⟩]) (
        .cond (.tmp 9) (
          .seq (
            .region [
              ⟨some 2, .mov (.const (.int .i64 0)), none⟩,
              ⟨some 3, .mov (.const (.int .i64 110)), none⟩]) (
            .ret)) (
          .skip))) (
      .seq (
        .region [
          ⟨some 10, .mov (.tmp 0), none⟩,
          ⟨some 11, .bin .add .no (.tmp 10) (.const (.int .i64 3)), none⟩,
          ⟨some 12, .bin .rem .no (.tmp 11) (.const (.int .i64 7)), none⟩,
          ⟨some 2, .mov (.tmp 12), none⟩,
          ⟨some 3, .mov (.const (.int .i64 0)), none⟩]) (
        .ret)))) }

/-- posthorn/posthornref20.Weekday -/
def F_posthornref20_Weekday : ACFn := { nt := 19, results := [.tmp 2, .tmp 3], body := (
  .seq (
    .region [
      ⟨some 2, .mov (.const (.int .i64 0)), none⟩,
      ⟨some 3, .mov (.const (.int .i64 0)), none⟩]) (
    .seq (
      .seq (
        .region [
          ⟨some 5, .mov (.tmp 0), none⟩,
          ⟨some 6, .bin .lss .no (.tmp 5) (.const (.int .i64 0)), none⟩,
          ⟨some 7, .mov (.tmp 6), none⟩,
          ⟨some 8, .mov (.tmp 0), some (7, false)⟩,
          ⟨some 9, .bin .gtr .no (.tmp 8) (.const (.int .i64 2932896)), some (7, false)⟩,
          ⟨some 10, .pick (.tmp 7) (.const (.bool true)) (.tmp 9), none⟩]) (
        .cond (.tmp 10) (
          .seq (
            .region [
              ⟨some 2, .mov (.const (.int .i64 0)), none⟩,
              ⟨some 3, .mov (.const (.int .i64 110)), none⟩]) (
            .ret)) (
          .skip))) (
      .seq (
        .region [
          ⟨some 11, .mov (.tmp 0), none⟩,
          ⟨some 12, .bin .rem .no (.tmp 11) (.const (.int .i64 7)), none⟩,
          ⟨some 4, .mov (.tmp 12), none⟩]) (
        .seq (
          .seq (
            .region [
              ⟨some 13, .mov (.tmp 4), none⟩,
              ⟨some 14, .bin .lss .no (.tmp 13) (.const (.int .i64 4)), none⟩]) (
            .cond (.tmp 14) (
              .seq (
                .region [
                  ⟨some 15, .mov (.tmp 4), none⟩,
                  ⟨some 16, .bin .add .no (.tmp 15) (.const (.int .i64 3)), none⟩,
                  ⟨some 2, .mov (.tmp 16), none⟩,
                  ⟨some 3, .mov (.const (.int .i64 0)), none⟩]) (
                .ret)) (
              .skip))) (
          .seq (
            .region [
              ⟨some 17, .mov (.tmp 4), none⟩,
              ⟨some 18, .bin .sub .no (.tmp 17) (.const (.int .i64 4)), none⟩,
              ⟨some 2, .mov (.tmp 18), none⟩,
              ⟨some 3, .mov (.const (.int .i64 0)), none⟩]) (
            .ret)))))) }

/-- posthorn/posthornlaw20.alive -/
def F_posthornlaw20_alive : ACFn := { nt := 57, results := [.tmp 0], body := (
  .seq (
    .region [
      ⟨some 0, .mov (.const (.bool false)), none⟩]) (
    .seq (
      .region [
        ⟨some 11, .call (.fn 256) [(.const (.int .i64 0)), (.const (.int .i64 3600))], none⟩,
        ⟨some 10, .mov (.tmp 11), none⟩,
        ⟨some 12, .ext 0 (.tmp 10), none⟩,
        ⟨some 13, .ext 1 (.tmp 10), none⟩,
        ⟨some 1, .mov (.tmp 12), none⟩,
        ⟨some 2, .mov (.tmp 13), none⟩]) (
      .seq (
        .region [
          ⟨some 15, .call (.fn 262) [(.const (.str [116, 104, 117, 32, 44, 32, 49, 32, 74, 65, 78, 32, 55, 48, 32, 48, 49, 58, 48, 48, 32, 40, 120, 41, 32, 43, 48, 49, 48, 48]))], none⟩,
          ⟨some 14, .mov (.tmp 15), none⟩,
          ⟨some 16, .ext 0 (.tmp 14), none⟩,
          ⟨some 17, .ext 1 (.tmp 14), none⟩,
          ⟨some 18, .ext 2 (.tmp 14), none⟩,
          ⟨some 3, .mov (.tmp 16), none⟩,
          ⟨some 4, .mov (.tmp 17), none⟩,
          ⟨some 5, .mov (.tmp 18), none⟩]) (
        .seq (
          .region [
            ⟨some 20, .call (.fn 265) [(.const (.int .i64 33)), (.const (.int .i64 1)), (.const (.str [120]))], none⟩,
            ⟨some 19, .mov (.tmp 20), none⟩,
            ⟨some 21, .ext 0 (.tmp 19), none⟩,
            ⟨some 22, .ext 1 (.tmp 19), none⟩,
            ⟨some 6, .mov (.tmp 21), none⟩,
            ⟨some 7, .mov (.tmp 22), none⟩]) (
          .seq (
            .region [
              ⟨some 24, .call (.fn 267) [(.const (.str [60, 97, 64, 98, 62, 32, 99]))], none⟩,
              ⟨some 23, .mov (.tmp 24), none⟩,
              ⟨some 25, .ext 0 (.tmp 23), none⟩,
              ⟨some 26, .ext 1 (.tmp 23), none⟩,
              ⟨some 8, .mov (.tmp 25), none⟩,
              ⟨some 9, .mov (.tmp 26), none⟩]) (
            .seq (
              .region [
                ⟨some 27, .mov (.tmp 1), none⟩,
                ⟨some 28, .bin .eql .no (.tmp 27) (.const (.str [84, 104, 117, 44, 32, 48, 49, 32, 74, 97, 110, 32, 49, 57, 55, 48, 32, 48, 49, 58, 48, 48, 58, 48, 48, 32, 43, 48, 49, 48, 48])), none⟩,
                ⟨some 29, .mov (.tmp 28), none⟩,
                ⟨some 30, .mov (.tmp 2), some (29, true)⟩,
                ⟨some 31, .bin .eql .no (.tmp 30) (.const (.int .i64 0)), some (29, true)⟩,
                ⟨some 32, .pick (.tmp 29) (.tmp 31) (.const (.bool false)), none⟩,
                ⟨some 33, .mov (.tmp 32), none⟩,
                ⟨some 34, .mov (.tmp 3), some (33, true)⟩,
                ⟨some 35, .bin .eql .no (.tmp 34) (.const (.int .i64 0)), some (33, true)⟩,
                ⟨some 36, .pick (.tmp 33) (.tmp 35) (.const (.bool false)), none⟩,
                ⟨some 37, .mov (.tmp 36), none⟩,
                ⟨some 38, .mov (.tmp 4), some (37, true)⟩,
                ⟨some 39, .bin .eql .no (.tmp 38) (.const (.int .i64 3600)), some (37, true)⟩,
                ⟨some 40, .pick (.tmp 37) (.tmp 39) (.const (.bool false)), none⟩,
                ⟨some 41, .mov (.tmp 40), none⟩,
                ⟨some 42, .mov (.tmp 5), some (41, true)⟩,
                ⟨some 43, .bin .eql .no (.tmp 42) (.const (.int .i64 0)), some (41, true)⟩,
                ⟨some 44, .pick (.tmp 41) (.tmp 43) (.const (.bool false)), none⟩,
                ⟨some 45, .mov (.tmp 44), none⟩,
                ⟨some 46, .mov (.tmp 6), some (45, true)⟩,
                ⟨some 47, .bin .eql .no (.tmp 46) (.const (.str [60, 49, 49, 46, 49, 64, 120, 62])), some (45, true)⟩,
                ⟨some 48, .pick (.tmp 45) (.tmp 47) (.const (.bool false)), none⟩,
                ⟨some 49, .mov (.tmp 48), none⟩,
                ⟨some 50, .mov (.tmp 7), some (49, true)⟩,
                ⟨some 51, .bin .eql .no (.tmp 50) (.const (.int .i64 0)), some (49, true)⟩,
                ⟨some 52, .pick (.tmp 49) (.tmp 51) (.const (.bool false)), none⟩,
                ⟨some 53, .mov (.tmp 52), none⟩,
                ⟨some 54, .mov (.tmp 9), some (53, true)⟩,
                ⟨some 55, .bin .eql .no (.tmp 54) (.const (.int .i64 3)), some (53, true)⟩,
                ⟨some 56, .pick (.tmp 53) (.tmp 55) (.const (.bool false)), none⟩,
                ⟨some 0, .mov (.tmp 56), none⟩]) (
              .ret))))))) }

/-- posthorn/date.Parse -/
def F_date_Parse : ACFn := { nt := 114, results := [.tmp 2, .tmp 3, .tmp 4], body := (
  .seq (
    .region [
      ⟨some 2, .mov (.const (.int .i64 0)), none⟩,
      ⟨some 3, .mov (.const (.int .i64 0)), none⟩,
      ⟨some 4, .mov (.const (.int .i64 0)), none⟩]) (
    .seq (
      .region [
        ⟨some 5, .alloc [.nils], none⟩]) (
      .seq (
        .seq (
          .region [
            ⟨some 20, .mov (.tmp 0), none⟩,
            ⟨some 21, .call (.fn 284) [(.tmp 20)], none⟩,
            ⟨some 22, .call (.fn 285) [(.tmp 21)], none⟩]) (
          .block 0 (
            .rangeFunc (.tmp 22) [23] (
              .region [
                ⟨some 6, .mov (.tmp 23), none⟩]) (
              .block 1 (
                .region [
                  ⟨some 24, .load false 1 (.tmp 5), none⟩,
                  ⟨some 25, .mov (.tmp 6), none⟩,
                  ⟨some 26, .lit 1 (.str []) 1 [(0, (.tmp 25))], none⟩,
                  ⟨some 27, .app false 1 (.tmp 24) (.tmp 26), none⟩,
                  ⟨none, .store 1 (.tmp 5) (.tmp 27), none⟩]))))) (
        .seq (
          .region [
            ⟨some 29, .load false 1 (.tmp 5), none⟩,
            ⟨some 30, .call (.fn 286) [(.tmp 29)], none⟩,
            ⟨some 28, .mov (.tmp 30), none⟩,
            ⟨some 31, .ext 0 (.tmp 28), none⟩,
            ⟨some 32, .ext 1 (.tmp 28), none⟩,
            ⟨some 7, .mov (.tmp 31), none⟩,
            ⟨none, .store 1 (.tmp 5) (.tmp 32), none⟩]) (
          .seq (
            .seq (
              .region [
                ⟨some 33, .mov (.tmp 7), none⟩,
                ⟨some 34, .bin .eql .no (.tmp 33) (.const (.int .i64 (-2))), none⟩,
                ⟨some 35, .mov (.tmp 34), none⟩,
                ⟨some 36, .load false 1 (.tmp 5), some (35, false)⟩,
                ⟨some 37, .len false (.tmp 36), some (35, false)⟩,
                ⟨some 38, .bin .lss .no (.tmp 37) (.const (.int .i64 4)), some (35, false)⟩,
                ⟨some 39, .pick (.tmp 35) (.const (.bool true)) (.tmp 38), none⟩,
                ⟨some 40, .mov (.tmp 39), none⟩,
                ⟨some 41, .load false 1 (.tmp 5), some (40, false)⟩,
                ⟨some 42, .len false (.tmp 41), some (40, false)⟩,
                ⟨some 43, .bin .gtr .no (.tmp 42) (.const (.int .i64 5)), some (40, false)⟩,
                ⟨some 44, .pick (.tmp 40) (.const (.bool true)) (.tmp 43), none⟩]) (
              .cond (.tmp 44) (
                .seq (
                  .region [
                    ⟨some 2, .mov (.const (.int .i64 0)), none⟩,
                    ⟨some 3, .mov (.const (.int .i64 0)), none⟩,
                    ⟨some 4, .mov (.const (.int .i64 110)), none⟩]) (
                  .ret)) (
                .skip))) (
            .seq (
              .region [
                ⟨some 45, .load false 1 (.tmp 5), none⟩,
                ⟨some 46, .iaddr 1 (.tmp 45) (.const (.int .i64 0)), none⟩,
                ⟨some 47, .loadc false 1 (.tmp 46), none⟩,
                ⟨some 48, .callk (.fn 287) [(.tmp 47), (.const (.int .i64 1)), (.const (.int .i64 2))], none⟩,
                ⟨some 49, .load false 1 (.tmp 5), none⟩,
                ⟨some 50, .iaddr 1 (.tmp 49) (.const (.int .i64 1)), none⟩,
                ⟨some 51, .loadc false 1 (.tmp 50), none⟩,
                ⟨some 52, .callk (.fn 288) [(.tmp 51), (.const (.int .i64 13)), (.fn 278)], none⟩,
                ⟨some 53, .load false 1 (.tmp 5), none⟩,
                ⟨some 54, .iaddr 1 (.tmp 53) (.const (.int .i64 2)), none⟩,
                ⟨some 55, .loadc false 1 (.tmp 54), none⟩,
                ⟨some 56, .callk (.fn 289) [(.tmp 55)], none⟩,
                ⟨some 57, .load false 1 (.tmp 5), none⟩,
                ⟨some 58, .iaddr 1 (.tmp 57) (.const (.int .i64 3)), none⟩,
                ⟨some 59, .loadc false 1 (.tmp 58), none⟩,
                ⟨some 60, .callk (.fn 290) [(.tmp 59)], none⟩,
                ⟨some 8, .mov (.tmp 48), none⟩,
                ⟨some 9, .mov (.tmp 52), none⟩,
                ⟨some 10, .mov (.tmp 56), none⟩,
                ⟨some 11, .mov (.tmp 60), none⟩]) (
              .seq (
                .region [
                  ⟨some 12, .mov (.const (.str [])), none⟩]) (
                .seq (
                  .seq (
                    .region [
                      ⟨some 61, .load false 1 (.tmp 5), none⟩,
                      ⟨some 62, .len false (.tmp 61), none⟩,
                      ⟨some 63, .bin .eql .no (.tmp 62) (.const (.int .i64 5)), none⟩]) (
                    .cond (.tmp 63) (
                      .region [
                        ⟨some 64, .load false 1 (.tmp 5), none⟩,
                        ⟨some 65, .iaddr 1 (.tmp 64) (.const (.int .i64 4)), none⟩,
                        ⟨some 66, .loadc false 1 (.tmp 65), none⟩,
                        ⟨some 12, .mov (.tmp 66), none⟩]) (
                      .skip))) (
                  .seq (
                    .region [
                      ⟨some 68, .mov (.tmp 12), none⟩,
                      ⟨some 69, .call (.fn 291) [(.tmp 68)], none⟩,
                      ⟨some 67, .mov (.tmp 69), none⟩,
                      ⟨some 70, .ext 0 (.tmp 67), none⟩,
                      ⟨some 71, .ext 1 (.tmp 67), none⟩,
                      ⟨some 13, .mov (.tmp 70), none⟩,
                      ⟨some 14, .mov (.tmp 71), none⟩]) (
                    .seq (
                      .region [
                        ⟨some 73, .mov (.tmp 10), none⟩,
                        ⟨some 74, .mov (.tmp 9), none⟩,
                        ⟨some 75, .mov (.tmp 8), none⟩,
                        ⟨some 76, .call (.fn 292) [(.tmp 73), (.tmp 74), (.tmp 75)], none⟩,
                        ⟨some 72, .mov (.tmp 76), none⟩,
                        ⟨some 77, .ext 0 (.tmp 72), none⟩,
                        ⟨some 78, .ext 1 (.tmp 72), none⟩,
                        ⟨some 15, .mov (.tmp 77), none⟩,
                        ⟨some 16, .mov (.tmp 78), none⟩]) (
                      .seq (
                        .region [
                          ⟨some 79, .mov (.tmp 15), none⟩,
                          ⟨some 80, .bin .mul .no (.tmp 79) (.const (.int .i64 86400)), none⟩,
                          ⟨some 81, .mov (.tmp 11), none⟩,
                          ⟨some 82, .bin .add .no (.tmp 80) (.tmp 81), none⟩,
                          ⟨some 83, .mov (.tmp 13), none⟩,
                          ⟨some 84, .bin .sub .no (.tmp 82) (.tmp 83), none⟩,
                          ⟨some 17, .mov (.tmp 84), none⟩]) (
                        .seq (
                          .seq (
                            .region [
                              ⟨some 85, .mov (.tmp 16), none⟩,
                              ⟨some 86, .bin .neq .no (.tmp 85) (.const (.int .i64 0)), none⟩,
                              ⟨some 87, .mov (.tmp 86), none⟩,
                              ⟨some 88, .mov (.tmp 11), some (87, false)⟩,
                              ⟨some 89, .bin .lss .no (.tmp 88) (.const (.int .i64 0)), some (87, false)⟩,
                              ⟨some 90, .pick (.tmp 87) (.const (.bool true)) (.tmp 89), none⟩,
                              ⟨some 91, .mov (.tmp 90), none⟩,
                              ⟨some 92, .mov (.tmp 14), some (91, false)⟩,
                              ⟨some 93, .un .not (.tmp 92), some (91, false)⟩,
                              ⟨some 94, .pick (.tmp 91) (.const (.bool true)) (.tmp 93), none⟩,
                              ⟨some 95, .mov (.tmp 94), none⟩,
                              ⟨some 96, .mov (.tmp 17), some (95, false)⟩,
                              ⟨some 97, .call (.fn 199) [(.tmp 96)], some (95, false)⟩,
                              ⟨some 98, .un .not (.tmp 97), some (95, false)⟩,
                              ⟨some 99, .pick (.tmp 95) (.const (.bool true)) (.tmp 98), none⟩]) (
                            .cond (.tmp 99) (
                              .seq (
                                .region [
                                  ⟨some 2, .mov (.const (.int .i64 0)), none⟩,
                                  ⟨some 3, .mov (.const (.int .i64 0)), none⟩,
                                  ⟨some 4, .mov (.const (.int .i64 110)), none⟩]) (
                                .ret)) (
                              .skip))) (
                          .seq (
                            .seq (
                              .region [
                                ⟨some 101, .mov (.tmp 15), none⟩,
                                ⟨some 102, .call (.fn 258) [(.tmp 101)], none⟩,
                                ⟨some 100, .mov (.tmp 102), none⟩,
                                ⟨some 103, .ext 0 (.tmp 100), none⟩,
                                ⟨some 104, .ext 1 (.tmp 100), none⟩,
                                ⟨some 18, .mov (.tmp 103), none⟩,
                                ⟨some 19, .mov (.tmp 104), none⟩]) (
                              .seq (
                                .region [
                                  ⟨some 105, .mov (.tmp 7), none⟩,
                                  ⟨some 106, .bin .geq .no (.tmp 105) (.const (.int .i64 0)), none⟩,
                                  ⟨some 107, .mov (.tmp 106), none⟩,
                                  ⟨some 108, .mov (.tmp 18), some (107, true)⟩,
                                  ⟨some 109, .mov (.tmp 7), some (107, true)⟩,
                                  ⟨some 110, .bin .neq .no (.tmp 108) (.tmp 109), some (107, true)⟩,
                                  ⟨some 111, .pick (.tmp 107) (.tmp 110) (.const (.bool false)), none⟩]) (
                                .cond (.tmp 111) (
                                  .seq (
                                    .region [
                                      ⟨some 2, .mov (.const (.int .i64 0)), none⟩,
                                      ⟨some 3, .mov (.const (.int .i64 0)), none⟩,
                                      ⟨some 4, .mov (.const (.int .i64 110)), none⟩]) (
                                    .ret)) (
                                  .skip)))) (
                            .seq (
                              .region [
                                ⟨some 112, .mov (.tmp 17), none⟩,
                                ⟨some 113, .mov (.tmp 13), none⟩,
                                ⟨some 2, .mov (.tmp 112), none⟩,
                                ⟨some 3, .mov (.tmp 113), none⟩,
                                ⟨some 4, .mov (.const (.int .i64 0)), none⟩]) (
                              .ret))))))))))))))) }

/-- posthorn/date.ID -/
def F_date_ID : ACFn := { nt := 33, results := [.tmp 6, .tmp 7], body := (
  .seq (
    .region [
      ⟨some 6, .mov (.const (.str [])), none⟩,
      ⟨some 7, .mov (.const (.int .i64 0)), none⟩]) (
    .seq (
      .seq (
        .region [
          ⟨some 8, .mov (.tmp 0), none⟩,
          ⟨some 9, .call (.fn 199) [(.tmp 8)], none⟩,
          ⟨some 10, .un .not (.tmp 9), none⟩,
          ⟨some 11, .mov (.tmp 10), none⟩,
          ⟨some 12, .mov (.tmp 1), some (11, false)⟩,
          ⟨some 13, .bin .lss .no (.tmp 12) (.const (.int .i64 0)), some (11, false)⟩,
          ⟨some 14, .pick (.tmp 11) (.const (.bool true)) (.tmp 13), none⟩,
          ⟨some 15, .mov (.tmp 14), none⟩,
          ⟨some 16, .mov (.tmp 2), some (15, false)⟩,
          ⟨some 17, .call (.fn 302) [(.tmp 16)], some (15, false)⟩,
          ⟨some 18, .un .not (.tmp 17), some (15, false)⟩,
          ⟨some 19, .pick (.tmp 15) (.const (.bool true)) (.tmp 18), none⟩]) (
        .cond (.tmp 19) (
          .seq (
            .region [
              ⟨some 6, .mov (.const (.str [])), none⟩,
              ⟨some 7, .mov (.const (.int .i64 1)), none⟩]) (
            .ret)) (
          .skip))) (
      .seq (
        .region [
          ⟨some 20, .mov (.tmp 0), none⟩,
          ⟨some 21, .cInt .u64 (.tmp 20), none⟩,
          ⟨some 22, .call (.fn 303) [(.tmp 21)], none⟩,
          ⟨some 23, .bin .add .no (.const (.str [60])) (.tmp 22), none⟩,
          ⟨some 24, .bin .add .no (.tmp 23) (.const (.str [46])), none⟩,
          ⟨some 25, .mov (.tmp 1), none⟩,
          ⟨some 26, .cInt .u64 (.tmp 25), none⟩,
          ⟨some 27, .call (.fn 303) [(.tmp 26)], none⟩,
          ⟨some 28, .bin .add .no (.tmp 24) (.tmp 27), none⟩,
          ⟨some 29, .bin .add .no (.tmp 28) (.const (.str [64])), none⟩,
          ⟨some 30, .mov (.tmp 2), none⟩,
          ⟨some 31, .bin .add .no (.tmp 29) (.tmp 30), none⟩,
          ⟨some 32, .bin .add .no (.tmp 31) (.const (.str [62])), none⟩,
          ⟨some 6, .mov (.tmp 32), none⟩,
          ⟨some 7, .mov (.const (.int .i64 0)), none⟩]) (
        .ret)))) }

/-- posthorn/posthornref20.ID -/
def F_posthornref20_ID : ACFn := { nt := 33, results := [.tmp 6, .tmp 7], body := (
  .seq (
    .region [
      ⟨some 6, .mov (.const (.str [])), none⟩,
      ⟨some 7, .mov (.const (.int .i64 0)), none⟩]) (
    .seq (
      .seq (
        .region [
          ⟨some 8, .mov (.tmp 0), none⟩,
          ⟨some 9, .call (.fn 209) [(.tmp 8)], none⟩,
          ⟨some 10, .un .not (.tmp 9), none⟩,
          ⟨some 11, .mov (.tmp 10), none⟩,
          ⟨some 12, .mov (.tmp 1), some (11, false)⟩,
          ⟨some 13, .bin .lss .no (.tmp 12) (.const (.int .i64 0)), some (11, false)⟩,
          ⟨some 14, .pick (.tmp 11) (.const (.bool true)) (.tmp 13), none⟩,
          ⟨some 15, .mov (.tmp 14), none⟩,
          ⟨some 16, .mov (.tmp 2), some (15, false)⟩,
          ⟨some 17, .call (.fn 218) [(.tmp 16)], some (15, false)⟩,
          ⟨some 18, .un .not (.tmp 17), some (15, false)⟩,
          ⟨some 19, .pick (.tmp 15) (.const (.bool true)) (.tmp 18), none⟩]) (
        .cond (.tmp 19) (
          .seq (
            .region [
              ⟨some 6, .mov (.const (.str [])), none⟩,
              ⟨some 7, .mov (.const (.int .i64 1)), none⟩]) (
            .ret)) (
          .skip))) (
      .seq (
        .region [
          ⟨some 20, .mov (.tmp 0), none⟩,
          ⟨some 21, .cInt .u64 (.tmp 20), none⟩,
          ⟨some 22, .call (.fn 304) [(.tmp 21)], none⟩,
          ⟨some 23, .bin .add .no (.const (.str [60])) (.tmp 22), none⟩,
          ⟨some 24, .bin .add .no (.tmp 23) (.const (.str [46])), none⟩,
          ⟨some 25, .mov (.tmp 1), none⟩,
          ⟨some 26, .cInt .u64 (.tmp 25), none⟩,
          ⟨some 27, .call (.fn 304) [(.tmp 26)], none⟩,
          ⟨some 28, .bin .add .no (.tmp 24) (.tmp 27), none⟩,
          ⟨some 29, .bin .add .no (.tmp 28) (.const (.str [64])), none⟩,
          ⟨some 30, .mov (.tmp 2), none⟩,
          ⟨some 31, .bin .add .no (.tmp 29) (.tmp 30), none⟩,
          ⟨some 32, .bin .add .no (.tmp 31) (.const (.str [62])), none⟩,
          ⟨some 6, .mov (.tmp 32), none⟩,
          ⟨some 7, .mov (.const (.int .i64 0)), none⟩]) (
        .ret)))) }

/-- posthorn/date.IDs -/
def F_date_IDs : ACFn := { nt := 60, results := [.tmp 2, .tmp 3], body := (
  .seq (
    .region [
      ⟨some 2, .mov (.const (.nils)), none⟩,
      ⟨some 3, .mov (.const (.int .i64 0)), none⟩]) (
    .seq (
      .region [
        ⟨some 4, .mov (.const (.nils)), none⟩]) (
      .seq (
        .block 0 (
          .loop (
            .seq (
              .seq (
                .region [
                  ⟨some 12, .mov (.tmp 0), none⟩,
                  ⟨some 13, .bin .neq .no (.tmp 12) (.const (.str [])), none⟩]) (
                .cond (.tmp 13) (
                  .skip) (
                  .exit 0))) (
              .block 1 (
                .seq (
                  .seq (
                    .region [
                      ⟨some 14, .mov (.tmp 0), none⟩,
                      ⟨some 15, .idxS (.tmp 14) (.const (.int .i64 0)), none⟩,
                      ⟨some 16, .bin .eql .no (.tmp 15) (.const (.b8 32)), none⟩,
                      ⟨some 17, .mov (.tmp 16), none⟩,
                      ⟨some 18, .mov (.tmp 0), some (17, false)⟩,
                      ⟨some 19, .idxS (.tmp 18) (.const (.int .i64 0)), some (17, false)⟩,
                      ⟨some 20, .bin .eql .no (.tmp 19) (.const (.b8 9)), some (17, false)⟩,
                      ⟨some 21, .pick (.tmp 17) (.const (.bool true)) (.tmp 20), none⟩]) (
                    .cond (.tmp 21) (
                      .seq (
                        .region [
                          ⟨some 22, .mov (.tmp 0), none⟩,
                          ⟨some 23, .slc 0 (.tmp 22) (some (.const (.int .i64 1))) none none, none⟩,
                          ⟨some 0, .mov (.tmp 23), none⟩]) (
                        .exit 1)) (
                      .skip))) (
                  .seq (
                    .region [
                      ⟨some 25, .mov (.tmp 0), none⟩,
                      ⟨some 26, .call (.fn 128) [(.tmp 25), (.const (.str [62]))], none⟩,
                      ⟨some 24, .mov (.tmp 26), none⟩,
                      ⟨some 27, .ext 0 (.tmp 24), none⟩,
                      ⟨some 28, .ext 1 (.tmp 24), none⟩,
                      ⟨some 29, .ext 2 (.tmp 24), none⟩,
                      ⟨some 5, .mov (.tmp 27), none⟩,
                      ⟨some 6, .mov (.tmp 28), none⟩,
                      ⟨some 7, .mov (.tmp 29), none⟩]) (
                    .seq (
                      .region [
                        ⟨some 31, .mov (.tmp 5), none⟩,
                        ⟨some 32, .call (.fn 305) [(.tmp 31), (.const (.str [60]))], none⟩,
                        ⟨some 30, .mov (.tmp 32), none⟩,
                        ⟨some 33, .ext 0 (.tmp 30), none⟩,
                        ⟨some 34, .ext 1 (.tmp 30), none⟩,
                        ⟨some 8, .mov (.tmp 33), none⟩,
                        ⟨some 9, .mov (.tmp 34), none⟩]) (
                      .seq (
                        .seq (
                          .region [
                            ⟨some 36, .mov (.tmp 8), none⟩,
                            ⟨some 37, .call (.fn 115) [(.tmp 36)], none⟩,
                            ⟨some 35, .mov (.tmp 37), none⟩,
                            ⟨some 38, .ext 0 (.tmp 35), none⟩,
                            ⟨some 39, .ext 1 (.tmp 35), none⟩,
                            ⟨some 10, .alloc [.str [], .str [], .str []], none⟩,
                            ⟨none, .store 3 (.tmp 10) (.tmp 38), none⟩,
                            ⟨some 11, .mov (.tmp 39), none⟩]) (
                          .seq (
                            .region [
                              ⟨some 40, .mov (.tmp 7), none⟩,
                              ⟨some 41, .un .not (.tmp 40), none⟩,
                              ⟨some 42, .mov (.tmp 41), none⟩,
                              ⟨some 43, .mov (.tmp 9), some (42, false)⟩,
                              ⟨some 44, .un .not (.tmp 43), some (42, false)⟩,
                              ⟨some 45, .pick (.tmp 42) (.const (.bool true)) (.tmp 44), none⟩,
                              ⟨some 46, .mov (.tmp 45), none⟩,
                              ⟨some 47, .mov (.tmp 11), some (46, false)⟩,
                              ⟨some 48, .bin .neq .no (.tmp 47) (.const (.int .i64 0)), some (46, false)⟩,
                              ⟨some 49, .pick (.tmp 46) (.const (.bool true)) (.tmp 48), none⟩]) (
                            .cond (.tmp 49) (
                              .seq (
                                .region [
                                  ⟨some 2, .mov (.const (.nils)), none⟩,
                                  ⟨some 3, .mov (.const (.int .i64 3)), none⟩]) (
                                .ret)) (
                              .skip)))) (
                        .seq (
                          .region [
                            ⟨some 50, .mov (.tmp 4), none⟩,
                            ⟨some 51, .mov (.tmp 5), none⟩,
                            ⟨some 52, .bin .add .no (.tmp 51) (.const (.str [62])), none⟩,
                            ⟨some 53, .lit 1 (.str []) 1 [(0, (.tmp 52))], none⟩,
                            ⟨some 54, .app false 1 (.tmp 50) (.tmp 53), none⟩,
                            ⟨some 4, .mov (.tmp 54), none⟩]) (
                          .region [
                            ⟨some 55, .mov (.tmp 6), none⟩,
                            ⟨some 0, .mov (.tmp 55), none⟩])))))))))) (
        .seq (
          .seq (
            .region [
              ⟨some 56, .mov (.tmp 4), none⟩,
              ⟨some 57, .len false (.tmp 56), none⟩,
              ⟨some 58, .bin .gtr .no (.tmp 57) (.const (.int .i64 64)), none⟩]) (
            .cond (.tmp 58) (
              .seq (
                .region [
                  ⟨some 2, .mov (.const (.nils)), none⟩,
                  ⟨some 3, .mov (.const (.int .i64 2)), none⟩]) (
                .ret)) (
              .skip))) (
          .seq (
            .region [
              ⟨some 59, .mov (.tmp 4), none⟩,
              ⟨some 2, .mov (.tmp 59), none⟩,
              ⟨some 3, .mov (.const (.int .i64 0)), none⟩]) (
            .ret)))))) }

/-- posthorn/posthornref20.IDs -/
def F_posthornref20_IDs : ACFn := { nt := 73, results := [.tmp 2, .tmp 3], body := (
  .seq (
    .region [
      ⟨some 2, .mov (.const (.nils)), none⟩,
      ⟨some 3, .mov (.const (.int .i64 0)), none⟩]) (
    .seq (
      .region [
        ⟨some 4, .mov (.const (.nils)), none⟩]) (
      .seq (
        .region [
          ⟨some 5, .mov (.const (.int .i64 0)), none⟩]) (
        .seq (
          .block 0 (
            .loop (
              .seq (
                .seq (
                  .region [
                    ⟨some 9, .mov (.tmp 5), none⟩,
                    ⟨some 10, .mov (.tmp 0), none⟩,
                    ⟨some 11, .len true (.tmp 10), none⟩,
                    ⟨some 12, .bin .lss .no (.tmp 9) (.tmp 11), none⟩]) (
                  .cond (.tmp 12) (
                    .skip) (
                    .exit 0))) (
                .block 1 (
                  .seq (
                    .seq (
                      .region [
                        ⟨some 13, .mov (.tmp 0), none⟩,
                        ⟨some 14, .mov (.tmp 5), none⟩,
                        ⟨some 15, .idxS (.tmp 13) (.tmp 14), none⟩,
                        ⟨some 16, .bin .eql .no (.tmp 15) (.const (.b8 32)), none⟩,
                        ⟨some 17, .mov (.tmp 16), none⟩,
                        ⟨some 18, .mov (.tmp 0), some (17, false)⟩,
                        ⟨some 19, .mov (.tmp 5), some (17, false)⟩,
                        ⟨some 20, .idxS (.tmp 18) (.tmp 19), some (17, false)⟩,
                        ⟨some 21, .bin .eql .no (.tmp 20) (.const (.b8 9)), some (17, false)⟩,
                        ⟨some 22, .pick (.tmp 17) (.const (.bool true)) (.tmp 21), none⟩]) (
                      .cond (.tmp 22) (
                        .seq (
                          .region [
                            ⟨some 23, .mov (.tmp 5), none⟩,
                            ⟨some 24, .bin .add .no (.tmp 23) (.const (.int .i64 1)), none⟩,
                            ⟨some 5, .mov (.tmp 24), none⟩]) (
                          .exit 1)) (
                        .skip))) (
                    .seq (
                      .region [
                        ⟨some 25, .mov (.tmp 5), none⟩,
                        ⟨some 6, .mov (.tmp 25), none⟩]) (
                      .seq (
                        .block 2 (
                          .loop (
                            .seq (
                              .seq (
                                .region [
                                  ⟨some 26, .mov (.tmp 6), none⟩,
                                  ⟨some 27, .mov (.tmp 0), none⟩,
                                  ⟨some 28, .len true (.tmp 27), none⟩,
                                  ⟨some 29, .bin .lss .no (.tmp 26) (.tmp 28), none⟩,
                                  ⟨some 30, .mov (.tmp 29), none⟩,
                                  ⟨some 31, .mov (.tmp 0), some (30, true)⟩,
                                  ⟨some 32, .mov (.tmp 6), some (30, true)⟩,
                                  ⟨some 33, .idxS (.tmp 31) (.tmp 32), some (30, true)⟩,
                                  ⟨some 34, .bin .neq .no (.tmp 33) (.const (.b8 62)), some (30, true)⟩,
                                  ⟨some 35, .pick (.tmp 30) (.tmp 34) (.const (.bool false)), none⟩]) (
                                .cond (.tmp 35) (
                                  .skip) (
                                  .exit 2))) (
                              .block 3 (
                                .region [
                                  ⟨some 36, .mov (.tmp 6), none⟩,
                                  ⟨some 37, .bin .add .no (.tmp 36) (.const (.int .i64 1)), none⟩,
                                  ⟨some 6, .mov (.tmp 37), none⟩]))))) (
                        .seq (
                          .seq (
                            .region [
                              ⟨some 38, .mov (.tmp 6), none⟩,
                              ⟨some 39, .mov (.tmp 0), none⟩,
                              ⟨some 40, .len true (.tmp 39), none⟩,
                              ⟨some 41, .bin .eql .no (.tmp 38) (.tmp 40), none⟩,
                              ⟨some 42, .mov (.tmp 41), none⟩,
                              ⟨some 43, .mov (.tmp 0), some (42, false)⟩,
                              ⟨some 44, .mov (.tmp 5), some (42, false)⟩,
                              ⟨some 45, .idxS (.tmp 43) (.tmp 44), some (42, false)⟩,
                              ⟨some 46, .bin .neq .no (.tmp 45) (.const (.b8 60)), some (42, false)⟩,
                              ⟨some 47, .pick (.tmp 42) (.const (.bool true)) (.tmp 46), none⟩]) (
                            .cond (.tmp 47) (
                              .seq (
                                .region [
                                  ⟨some 2, .mov (.const (.nils)), none⟩,
                                  ⟨some 3, .mov (.const (.int .i64 3)), none⟩]) (
                                .ret)) (
                              .skip))) (
                          .seq (
                            .region [
                              ⟨some 49, .mov (.tmp 0), none⟩,
                              ⟨some 50, .mov (.tmp 5), none⟩,
                              ⟨some 51, .bin .add .no (.tmp 50) (.const (.int .i64 1)), none⟩,
                              ⟨some 52, .mov (.tmp 6), none⟩,
                              ⟨some 53, .slc 0 (.tmp 49) (some (.tmp 51)) (some (.tmp 52)) none, none⟩,
                              ⟨some 54, .call (.fn 213) [(.tmp 53)], none⟩,
                              ⟨some 48, .mov (.tmp 54), none⟩,
                              ⟨some 55, .ext 0 (.tmp 48), none⟩,
                              ⟨some 56, .ext 1 (.tmp 48), none⟩,
                              ⟨some 7, .alloc [.str [], .str [], .str []], none⟩,
                              ⟨none, .store 3 (.tmp 7) (.tmp 55), none⟩,
                              ⟨some 8, .mov (.tmp 56), none⟩]) (
                            .seq (
                              .seq (
                                .region [
                                  ⟨some 57, .mov (.tmp 8), none⟩,
                                  ⟨some 58, .bin .neq .no (.tmp 57) (.const (.int .i64 0)), none⟩]) (
                                .cond (.tmp 58) (
                                  .seq (
                                    .region [
                                      ⟨some 2, .mov (.const (.nils)), none⟩,
                                      ⟨some 3, .mov (.const (.int .i64 3)), none⟩]) (
                                    .ret)) (
                                  .skip))) (
                              .seq (
                                .region [
                                  ⟨some 59, .mov (.tmp 4), none⟩,
                                  ⟨some 60, .mov (.tmp 0), none⟩,
                                  ⟨some 61, .mov (.tmp 5), none⟩,
                                  ⟨some 62, .mov (.tmp 6), none⟩,
                                  ⟨some 63, .bin .add .no (.tmp 62) (.const (.int .i64 1)), none⟩,
                                  ⟨some 64, .slc 0 (.tmp 60) (some (.tmp 61)) (some (.tmp 63)) none, none⟩,
                                  ⟨some 65, .lit 1 (.str []) 1 [(0, (.tmp 64))], none⟩,
                                  ⟨some 66, .app false 1 (.tmp 59) (.tmp 65), none⟩,
                                  ⟨some 4, .mov (.tmp 66), none⟩]) (
                                .region [
                                  ⟨some 67, .mov (.tmp 6), none⟩,
                                  ⟨some 68, .bin .add .no (.tmp 67) (.const (.int .i64 1)), none⟩,
                                  ⟨some 5, .mov (.tmp 68), none⟩])))))))))))) (
          .seq (
            .seq (
              .region [
                ⟨some 69, .mov (.tmp 4), none⟩,
                ⟨some 70, .len false (.tmp 69), none⟩,
                ⟨some 71, .bin .gtr .no (.tmp 70) (.const (.int .i64 64)), none⟩]) (
              .cond (.tmp 71) (
                .seq (
                  .region [
                    ⟨some 2, .mov (.const (.nils)), none⟩,
                    ⟨some 3, .mov (.const (.int .i64 2)), none⟩]) (
                  .ret)) (
                .skip))) (
            .seq (
              .region [
                ⟨some 72, .mov (.tmp 4), none⟩,
                ⟨some 2, .mov (.tmp 72), none⟩,
                ⟨some 3, .mov (.const (.int .i64 0)), none⟩]) (
              .ret))))))) }

/-- posthorn/posthornlaw20.DateIds -/
def F_posthornlaw20_DateIds : ACFn := { nt := 87, results := [.tmp 8], body := (
  .seq (
    .region [
      ⟨some 8, .mov (.const (.bool false)), none⟩]) (
    .seq (
      .seq (
        .region [
          ⟨some 18, .mov (.tmp 2), none⟩,
          ⟨some 19, .len true (.tmp 18), none⟩,
          ⟨some 20, .bin .gtr .no (.tmp 19) (.const (.int .i64 600)), none⟩,
          ⟨some 21, .mov (.tmp 20), none⟩,
          ⟨some 22, .mov (.tmp 3), some (21, false)⟩,
          ⟨some 23, .len true (.tmp 22), some (21, false)⟩,
          ⟨some 24, .bin .gtr .no (.tmp 23) (.const (.int .i64 2000)), some (21, false)⟩,
          ⟨some 25, .pick (.tmp 21) (.const (.bool true)) (.tmp 24), none⟩]) (
        .cond (.tmp 25) (
          .seq (
            .region [
              ⟨some 26, .call (.fn 260) [], none⟩,
              ⟨some 8, .mov (.tmp 26), none⟩]) (
            .ret)) (
          .skip))) (
      .seq (
        .region [
          ⟨some 28, .mov (.tmp 0), none⟩,
          ⟨some 29, .mov (.tmp 1), none⟩,
          ⟨some 30, .mov (.tmp 2), none⟩,
          ⟨some 31, .call (.fn 265) [(.tmp 28), (.tmp 29), (.tmp 30)], none⟩,
          ⟨some 27, .mov (.tmp 31), none⟩,
          ⟨some 32, .ext 0 (.tmp 27), none⟩,
          ⟨some 33, .ext 1 (.tmp 27), none⟩,
          ⟨some 9, .mov (.tmp 32), none⟩,
          ⟨some 10, .mov (.tmp 33), none⟩]) (
        .seq (
          .region [
            ⟨some 35, .mov (.tmp 0), none⟩,
            ⟨some 36, .mov (.tmp 1), none⟩,
            ⟨some 37, .mov (.tmp 2), none⟩,
            ⟨some 38, .call (.fn 266) [(.tmp 35), (.tmp 36), (.tmp 37)], none⟩,
            ⟨some 34, .mov (.tmp 38), none⟩,
            ⟨some 39, .ext 0 (.tmp 34), none⟩,
            ⟨some 40, .ext 1 (.tmp 34), none⟩,
            ⟨some 11, .mov (.tmp 39), none⟩,
            ⟨some 12, .mov (.tmp 40), none⟩]) (
          .seq (
            .region [
              ⟨some 42, .mov (.tmp 3), none⟩,
              ⟨some 43, .call (.fn 267) [(.tmp 42)], none⟩,
              ⟨some 41, .mov (.tmp 43), none⟩,
              ⟨some 44, .ext 0 (.tmp 41), none⟩,
              ⟨some 45, .ext 1 (.tmp 41), none⟩,
              ⟨some 13, .mov (.tmp 44), none⟩,
              ⟨some 14, .mov (.tmp 45), none⟩]) (
            .seq (
              .region [
                ⟨some 47, .mov (.tmp 3), none⟩,
                ⟨some 48, .call (.fn 268) [(.tmp 47)], none⟩,
                ⟨some 46, .mov (.tmp 48), none⟩,
                ⟨some 49, .ext 0 (.tmp 46), none⟩,
                ⟨some 50, .ext 1 (.tmp 46), none⟩,
                ⟨some 15, .mov (.tmp 49), none⟩,
                ⟨some 16, .mov (.tmp 50), none⟩]) (
              .seq (
                .seq (
                  .region [
                    ⟨some 51, .mov (.tmp 13), none⟩,
                    ⟨some 52, .len false (.tmp 51), none⟩,
                    ⟨some 53, .mov (.tmp 15), none⟩,
                    ⟨some 54, .len false (.tmp 53), none⟩,
                    ⟨some 55, .bin .neq .no (.tmp 52) (.tmp 54), none⟩]) (
                  .cond (.tmp 55) (
                    .seq (
                      .region [
                        ⟨some 8, .mov (.const (.bool false)), none⟩]) (
                      .ret)) (
                    .skip))) (
                .seq (
                  .seq (
                    .region [
                      ⟨some 17, .mov (.const (.int .i64 0)), none⟩]) (
                    .block 0 (
                      .loop (
                        .seq (
                          .seq (
                            .region [
                              ⟨some 56, .mov (.tmp 17), none⟩,
                              ⟨some 57, .mov (.tmp 13), none⟩,
                              ⟨some 58, .len false (.tmp 57), none⟩,
                              ⟨some 59, .bin .lss .no (.tmp 56) (.tmp 58), none⟩]) (
                            .cond (.tmp 59) (
                              .skip) (
                              .exit 0))) (
                          .seq (
                            .block 1 (
                              .seq (
                                .region [
                                  ⟨some 62, .mov (.tmp 13), none⟩,
                                  ⟨some 63, .mov (.tmp 17), none⟩,
                                  ⟨some 64, .iaddr 1 (.tmp 62) (.tmp 63), none⟩,
                                  ⟨some 65, .load false 1 (.tmp 64), none⟩,
                                  ⟨some 66, .mov (.tmp 15), none⟩,
                                  ⟨some 67, .mov (.tmp 17), none⟩,
                                  ⟨some 68, .iaddr 1 (.tmp 66) (.tmp 67), none⟩,
                                  ⟨some 69, .load false 1 (.tmp 68), none⟩,
                                  ⟨some 70, .bin .neq .no (.tmp 65) (.tmp 69), none⟩]) (
                                .cond (.tmp 70) (
                                  .seq (
                                    .region [
                                      ⟨some 8, .mov (.const (.bool false)), none⟩]) (
                                    .ret)) (
                                  .skip)))) (
                            .region [
                              ⟨some 60, .mov (.tmp 17), none⟩,
                              ⟨some 61, .bin .add .no (.tmp 60) (.const (.int .i64 1)), none⟩,
                              ⟨some 17, .mov (.tmp 61), none⟩])))))) (
                  .seq (
                    .region [
                      ⟨some 71, .call (.fn 260) [], none⟩,
                      ⟨some 72, .mov (.tmp 71), none⟩,
                      ⟨some 73, .mov (.tmp 9), some (72, true)⟩,
                      ⟨some 74, .mov (.tmp 11), some (72, true)⟩,
                      ⟨some 75, .bin .eql .no (.tmp 73) (.tmp 74), some (72, true)⟩,
                      ⟨some 76, .pick (.tmp 72) (.tmp 75) (.const (.bool false)), none⟩,
                      ⟨some 77, .mov (.tmp 76), none⟩,
                      ⟨some 78, .mov (.tmp 10), some (77, true)⟩,
                      ⟨some 79, .mov (.tmp 12), some (77, true)⟩,
                      ⟨some 80, .bin .eql .no (.tmp 78) (.tmp 79), some (77, true)⟩,
                      ⟨some 81, .pick (.tmp 77) (.tmp 80) (.const (.bool false)), none⟩,
                      ⟨some 82, .mov (.tmp 81), none⟩,
                      ⟨some 83, .mov (.tmp 14), some (82, true)⟩,
                      ⟨some 84, .mov (.tmp 16), some (82, true)⟩,
                      ⟨some 85, .bin .eql .no (.tmp 83) (.tmp 84), some (82, true)⟩,
                      ⟨some 86, .pick (.tmp 82) (.tmp 85) (.const (.bool false)), none⟩,
                      ⟨some 8, .mov (.tmp 86), none⟩]) (
                    .ret)))))))))) }

/-- posthorn/posthornlaw20.DateUnlike -/
def F_posthornlaw20_DateUnlike : ACFn := { nt := 120, results := [.tmp 10], body := (
  .seq (
    .region [
      ⟨some 10, .mov (.const (.bool false)), none⟩]) (
    .seq (
      .seq (
        .region [
          ⟨some 19, .mov (.tmp 4), none⟩,
          ⟨some 20, .len true (.tmp 19), none⟩,
          ⟨some 21, .bin .gtr .no (.tmp 20) (.const (.int .i64 600)), none⟩]) (
        .cond (.tmp 21) (
          .seq (
            .region [
              ⟨some 22, .call (.fn 260) [], none⟩,
              ⟨some 10, .mov (.tmp 22), none⟩]) (
            .ret)) (
          .skip))) (
      .seq (
        .region [
          ⟨some 24, .mov (.tmp 0), none⟩,
          ⟨some 25, .mov (.tmp 2), none⟩,
          ⟨some 26, .mov (.tmp 4), none⟩,
          ⟨some 27, .call (.fn 265) [(.tmp 24), (.tmp 25), (.tmp 26)], none⟩,
          ⟨some 23, .mov (.tmp 27), none⟩,
          ⟨some 28, .ext 0 (.tmp 23), none⟩,
          ⟨some 29, .ext 1 (.tmp 23), none⟩,
          ⟨some 11, .mov (.tmp 28), none⟩,
          ⟨some 12, .mov (.tmp 29), none⟩]) (
        .seq (
          .region [
            ⟨some 31, .mov (.tmp 1), none⟩,
            ⟨some 32, .mov (.tmp 3), none⟩,
            ⟨some 33, .mov (.tmp 4), none⟩,
            ⟨some 34, .call (.fn 265) [(.tmp 31), (.tmp 32), (.tmp 33)], none⟩,
            ⟨some 30, .mov (.tmp 34), none⟩,
            ⟨some 35, .ext 0 (.tmp 30), none⟩,
            ⟨some 36, .ext 1 (.tmp 30), none⟩,
            ⟨some 13, .mov (.tmp 35), none⟩,
            ⟨some 14, .mov (.tmp 36), none⟩]) (
          .seq (
            .seq (
              .region [
                ⟨some 37, .mov (.tmp 12), none⟩,
                ⟨some 38, .bin .neq .no (.tmp 37) (.const (.int .i64 0)), none⟩,
                ⟨some 39, .mov (.tmp 38), none⟩,
                ⟨some 40, .mov (.tmp 14), some (39, false)⟩,
                ⟨some 41, .bin .neq .no (.tmp 40) (.const (.int .i64 0)), some (39, false)⟩,
                ⟨some 42, .pick (.tmp 39) (.const (.bool true)) (.tmp 41), none⟩]) (
              .cond (.tmp 42) (
                .seq (
                  .region [
                    ⟨some 43, .call (.fn 260) [], none⟩,
                    ⟨some 10, .mov (.tmp 43), none⟩]) (
                  .ret)) (
                .skip))) (
            .seq (
              .region [
                ⟨some 45, .mov (.tmp 11), none⟩,
                ⟨some 46, .mov (.tmp 13), none⟩,
                ⟨some 47, .bin .add .no (.tmp 45) (.tmp 46), none⟩,
                ⟨some 48, .call (.fn 267) [(.tmp 47)], none⟩,
                ⟨some 44, .mov (.tmp 48), none⟩,
                ⟨some 49, .ext 0 (.tmp 44), none⟩,
                ⟨some 50, .ext 1 (.tmp 44), none⟩,
                ⟨some 15, .mov (.tmp 49), none⟩,
                ⟨some 16, .mov (.tmp 50), none⟩]) (
              .seq (
                .region [
                  ⟨some 52, .mov (.tmp 11), none⟩,
                  ⟨some 53, .bin .add .no (.const (.str [32])) (.tmp 52), none⟩,
                  ⟨some 54, .bin .add .no (.tmp 53) (.const (.str [9])), none⟩,
                  ⟨some 55, .mov (.tmp 13), none⟩,
                  ⟨some 56, .bin .add .no (.tmp 54) (.tmp 55), none⟩,
                  ⟨some 57, .bin .add .no (.tmp 56) (.const (.str [32])), none⟩,
                  ⟨some 58, .call (.fn 267) [(.tmp 57)], none⟩,
                  ⟨some 51, .mov (.tmp 58), none⟩,
                  ⟨some 59, .ext 0 (.tmp 51), none⟩,
                  ⟨some 60, .ext 1 (.tmp 51), none⟩,
                  ⟨some 17, .mov (.tmp 59), none⟩,
                  ⟨some 18, .mov (.tmp 60), none⟩]) (
                .seq (
                  .seq (
                    .region [
                      ⟨some 61, .mov (.tmp 16), none⟩,
                      ⟨some 62, .bin .neq .no (.tmp 61) (.const (.int .i64 0)), none⟩,
                      ⟨some 63, .mov (.tmp 62), none⟩,
                      ⟨some 64, .mov (.tmp 18), some (63, false)⟩,
                      ⟨some 65, .bin .neq .no (.tmp 64) (.const (.int .i64 0)), some (63, false)⟩,
                      ⟨some 66, .pick (.tmp 63) (.const (.bool true)) (.tmp 65), none⟩,
                      ⟨some 67, .mov (.tmp 66), none⟩,
                      ⟨some 68, .mov (.tmp 15), some (67, false)⟩,
                      ⟨some 69, .len false (.tmp 68), some (67, false)⟩,
                      ⟨some 70, .bin .neq .no (.tmp 69) (.const (.int .i64 2)), some (67, false)⟩,
                      ⟨some 71, .pick (.tmp 67) (.const (.bool true)) (.tmp 70), none⟩,
                      ⟨some 72, .mov (.tmp 71), none⟩,
                      ⟨some 73, .mov (.tmp 17), some (72, false)⟩,
                      ⟨some 74, .len false (.tmp 73), some (72, false)⟩,
                      ⟨some 75, .bin .neq .no (.tmp 74) (.const (.int .i64 2)), some (72, false)⟩,
                      ⟨some 76, .pick (.tmp 72) (.const (.bool true)) (.tmp 75), none⟩]) (
                    .cond (.tmp 76) (
                      .seq (
                        .region [
                          ⟨some 10, .mov (.const (.bool false)), none⟩]) (
                        .ret)) (
                      .skip))) (
                  .seq (
                    .region [
                      ⟨some 77, .call (.fn 260) [], none⟩,
                      ⟨some 78, .mov (.tmp 77), none⟩,
                      ⟨some 79, .mov (.tmp 11), some (78, true)⟩,
                      ⟨some 80, .mov (.tmp 13), some (78, true)⟩,
                      ⟨some 81, .bin .eql .no (.tmp 79) (.tmp 80), some (78, true)⟩,
                      ⟨some 82, .mov (.tmp 0), some (78, true)⟩,
                      ⟨some 83, .mov (.tmp 1), some (78, true)⟩,
                      ⟨some 84, .bin .eql .no (.tmp 82) (.tmp 83), some (78, true)⟩,
                      ⟨some 85, .mov (.tmp 84), some (78, true)⟩,
                      ⟨some 86, .mov (.tmp 2), some (85, true)⟩,
                      ⟨some 87, .mov (.tmp 3), some (85, true)⟩,
                      ⟨some 88, .bin .eql .no (.tmp 86) (.tmp 87), some (85, true)⟩,
                      ⟨some 89, .pick (.tmp 85) (.tmp 88) (.const (.bool false)), some (78, true)⟩,
                      ⟨some 90, .bin .eql .bool (.tmp 81) (.tmp 89), some (78, true)⟩,
                      ⟨some 91, .pick (.tmp 78) (.tmp 90) (.const (.bool false)), none⟩,
                      ⟨some 92, .mov (.tmp 91), none⟩,
                      ⟨some 93, .mov (.tmp 15), some (92, true)⟩,
                      ⟨some 94, .iaddr 1 (.tmp 93) (.const (.int .i64 0)), some (92, true)⟩,
                      ⟨some 95, .load false 1 (.tmp 94), some (92, true)⟩,
                      ⟨some 96, .mov (.tmp 11), some (92, true)⟩,
                      ⟨some 97, .bin .eql .no (.tmp 95) (.tmp 96), some (92, true)⟩,
                      ⟨some 98, .pick (.tmp 92) (.tmp 97) (.const (.bool false)), none⟩,
                      ⟨some 99, .mov (.tmp 98), none⟩,
                      ⟨some 100, .mov (.tmp 15), some (99, true)⟩,
                      ⟨some 101, .iaddr 1 (.tmp 100) (.const (.int .i64 1)), some (99, true)⟩,
                      ⟨some 102, .load false 1 (.tmp 101), some (99, true)⟩,
                      ⟨some 103, .mov (.tmp 13), some (99, true)⟩,
                      ⟨some 104, .bin .eql .no (.tmp 102) (.tmp 103), some (99, true)⟩,
                      ⟨some 105, .pick (.tmp 99) (.tmp 104) (.const (.bool false)), none⟩,
                      ⟨some 106, .mov (.tmp 105), none⟩,
                      ⟨some 107, .mov (.tmp 17), some (106, true)⟩,
                      ⟨some 108, .iaddr 1 (.tmp 107) (.const (.int .i64 0)), some (106, true)⟩,
                      ⟨some 109, .load false 1 (.tmp 108), some (106, true)⟩,
                      ⟨some 110, .mov (.tmp 11), some (106, true)⟩,
                      ⟨some 111, .bin .eql .no (.tmp 109) (.tmp 110), some (106, true)⟩,
                      ⟨some 112, .pick (.tmp 106) (.tmp 111) (.const (.bool false)), none⟩,
                      ⟨some 113, .mov (.tmp 112), none⟩,
                      ⟨some 114, .mov (.tmp 17), some (113, true)⟩,
                      ⟨some 115, .iaddr 1 (.tmp 114) (.const (.int .i64 1)), some (113, true)⟩,
                      ⟨some 116, .load false 1 (.tmp 115), some (113, true)⟩,
                      ⟨some 117, .mov (.tmp 13), some (113, true)⟩,
                      ⟨some 118, .bin .eql .no (.tmp 116) (.tmp 117), some (113, true)⟩,
                      ⟨some 119, .pick (.tmp 113) (.tmp 118) (.const (.bool false)), none⟩,
                      ⟨some 10, .mov (.tmp 119), none⟩]) (
                    .ret)))))))))) }

/-- posthorn/posthornlaw20.DateWeeks -/
def F_posthornlaw20_DateWeeks : ACFn := { nt := 66, results := [.tmp 2], body := (
  .seq (
    .region [
      ⟨some 2, .mov (.const (.bool false)), none⟩]) (
    .seq (
      .seq (
        .region [
          ⟨some 9, .mov (.tmp 0), none⟩,
          ⟨some 10, .bin .lss .no (.tmp 9) (.const (.int .i64 7)), none⟩,
          ⟨some 11, .mov (.tmp 10), none⟩,
          ⟨some 12, .mov (.tmp 0), some (11, false)⟩,
          ⟨some 13, .bin .gtr .no (.tmp 12) (.const (.int .i64 2932896)), some (11, false)⟩,
          ⟨some 14, .pick (.tmp 11) (.const (.bool true)) (.tmp 13), none⟩]) (
        .cond (.tmp 14) (
          .seq (
            .region [
              ⟨some 15, .call (.fn 260) [], none⟩,
              ⟨some 2, .mov (.tmp 15), none⟩]) (
            .ret)) (
          .skip))) (
      .seq (
        .region [
          ⟨some 17, .mov (.tmp 0), none⟩,
          ⟨some 18, .call (.fn 258) [(.tmp 17)], none⟩,
          ⟨some 16, .mov (.tmp 18), none⟩,
          ⟨some 19, .ext 0 (.tmp 16), none⟩,
          ⟨some 20, .ext 1 (.tmp 16), none⟩,
          ⟨some 3, .mov (.tmp 19), none⟩,
          ⟨some 4, .mov (.tmp 20), none⟩]) (
        .seq (
          .region [
            ⟨some 22, .mov (.tmp 0), none⟩,
            ⟨some 23, .bin .sub .no (.tmp 22) (.const (.int .i64 1)), none⟩,
            ⟨some 24, .call (.fn 258) [(.tmp 23)], none⟩,
            ⟨some 21, .mov (.tmp 24), none⟩,
            ⟨some 25, .ext 0 (.tmp 21), none⟩,
            ⟨some 26, .ext 1 (.tmp 21), none⟩,
            ⟨some 5, .mov (.tmp 25), none⟩,
            ⟨some 6, .mov (.tmp 26), none⟩]) (
          .seq (
            .region [
              ⟨some 28, .mov (.tmp 0), none⟩,
              ⟨some 29, .bin .sub .no (.tmp 28) (.const (.int .i64 7)), none⟩,
              ⟨some 30, .call (.fn 258) [(.tmp 29)], none⟩,
              ⟨some 27, .mov (.tmp 30), none⟩,
              ⟨some 31, .ext 0 (.tmp 27), none⟩,
              ⟨some 32, .ext 1 (.tmp 27), none⟩,
              ⟨some 7, .mov (.tmp 31), none⟩,
              ⟨some 8, .mov (.tmp 32), none⟩]) (
            .seq (
              .region [
                ⟨some 33, .call (.fn 260) [], none⟩,
                ⟨some 34, .mov (.tmp 33), none⟩,
                ⟨some 35, .mov (.tmp 4), some (34, true)⟩,
                ⟨some 36, .bin .eql .no (.tmp 35) (.const (.int .i64 0)), some (34, true)⟩,
                ⟨some 37, .pick (.tmp 34) (.tmp 36) (.const (.bool false)), none⟩,
                ⟨some 38, .mov (.tmp 37), none⟩,
                ⟨some 39, .mov (.tmp 6), some (38, true)⟩,
                ⟨some 40, .bin .eql .no (.tmp 39) (.const (.int .i64 0)), some (38, true)⟩,
                ⟨some 41, .pick (.tmp 38) (.tmp 40) (.const (.bool false)), none⟩,
                ⟨some 42, .mov (.tmp 41), none⟩,
                ⟨some 43, .mov (.tmp 8), some (42, true)⟩,
                ⟨some 44, .bin .eql .no (.tmp 43) (.const (.int .i64 0)), some (42, true)⟩,
                ⟨some 45, .pick (.tmp 42) (.tmp 44) (.const (.bool false)), none⟩,
                ⟨some 46, .mov (.tmp 45), none⟩,
                ⟨some 47, .mov (.tmp 3), some (46, true)⟩,
                ⟨some 48, .mov (.tmp 7), some (46, true)⟩,
                ⟨some 49, .bin .eql .no (.tmp 47) (.tmp 48), some (46, true)⟩,
                ⟨some 50, .pick (.tmp 46) (.tmp 49) (.const (.bool false)), none⟩,
                ⟨some 51, .mov (.tmp 50), none⟩,
                ⟨some 52, .mov (.tmp 3), some (51, true)⟩,
                ⟨some 53, .mov (.tmp 5), some (51, true)⟩,
                ⟨some 54, .bin .add .no (.tmp 53) (.const (.int .i64 1)), some (51, true)⟩,
                ⟨some 55, .bin .rem .no (.tmp 54) (.const (.int .i64 7)), some (51, true)⟩,
                ⟨some 56, .bin .eql .no (.tmp 52) (.tmp 55), some (51, true)⟩,
                ⟨some 57, .pick (.tmp 51) (.tmp 56) (.const (.bool false)), none⟩,
                ⟨some 58, .mov (.tmp 57), none⟩,
                ⟨some 59, .mov (.tmp 3), some (58, true)⟩,
                ⟨some 60, .bin .geq .no (.tmp 59) (.const (.int .i64 0)), some (58, true)⟩,
                ⟨some 61, .pick (.tmp 58) (.tmp 60) (.const (.bool false)), none⟩,
                ⟨some 62, .mov (.tmp 61), none⟩,
                ⟨some 63, .mov (.tmp 3), some (62, true)⟩,
                ⟨some 64, .bin .lss .no (.tmp 63) (.const (.int .i64 7)), some (62, true)⟩,
                ⟨some 65, .pick (.tmp 62) (.tmp 64) (.const (.bool false)), none⟩,
                ⟨some 2, .mov (.tmp 65), none⟩]) (
              .ret))))))) }

/-- posthorn/date.isShift -/
def F_date_isShift : ACFn := { nt := 14, results := [.tmp 2], body := (
  .seq (
    .region [
      ⟨some 2, .mov (.const (.bool false)), none⟩]) (
    .seq (
      .region [
        ⟨some 3, .mov (.tmp 0), none⟩,
        ⟨some 4, .bin .geq .no (.tmp 3) (.const (.int .i64 (-86340))), none⟩,
        ⟨some 5, .mov (.tmp 4), none⟩,
        ⟨some 6, .mov (.tmp 0), some (5, true)⟩,
        ⟨some 7, .bin .leq .no (.tmp 6) (.const (.int .i64 86340)), some (5, true)⟩,
        ⟨some 8, .pick (.tmp 5) (.tmp 7) (.const (.bool false)), none⟩,
        ⟨some 9, .mov (.tmp 8), none⟩,
        ⟨some 10, .mov (.tmp 0), some (9, true)⟩,
        ⟨some 11, .bin .rem .no (.tmp 10) (.const (.int .i64 60)), some (9, true)⟩,
        ⟨some 12, .bin .eql .no (.tmp 11) (.const (.int .i64 0)), some (9, true)⟩,
        ⟨some 13, .pick (.tmp 9) (.tmp 12) (.const (.bool false)), none⟩,
        ⟨some 2, .mov (.tmp 13), none⟩]) (
      .ret))) }

/-- posthorn/when.Civil -/
def F_when_Civil : ACFn := { nt := 49, results := [.tmp 2, .tmp 3, .tmp 4, .tmp 5], body := (
  .seq (
    .region [
      ⟨some 2, .mov (.const (.int .i64 0)), none⟩,
      ⟨some 3, .mov (.const (.int .i64 0)), none⟩,
      ⟨some 4, .mov (.const (.int .i64 0)), none⟩,
      ⟨some 5, .mov (.const (.int .i64 0)), none⟩]) (
    .seq (
      .seq (
        .region [
          ⟨some 9, .mov (.tmp 0), none⟩,
          ⟨some 10, .bin .lss .no (.tmp 9) (.const (.int .i64 0)), none⟩,
          ⟨some 11, .mov (.tmp 10), none⟩,
          ⟨some 12, .mov (.tmp 0), some (11, false)⟩,
          ⟨some 13, .bin .gtr .no (.tmp 12) (.const (.int .i64 2932896)), some (11, false)⟩,
          ⟨some 14, .pick (.tmp 11) (.const (.bool true)) (.tmp 13), none⟩]) (
        .cond (.tmp 14) (
          .seq (
            .region [
              ⟨some 2, .mov (.const (.int .i64 0)), none⟩,
              ⟨some 3, .mov (.const (.int .i64 0)), none⟩,
              ⟨some 4, .mov (.const (.int .i64 0)), none⟩,
              ⟨some 5, .mov (.const (.int .i64 110)), none⟩]) (
            .ret)) (
          .skip))) (
      .seq (
        .region [
          ⟨some 15, .mov (.tmp 0), none⟩,
          ⟨some 16, .bin .quo .no (.tmp 15) (.const (.int .i64 366)), none⟩,
          ⟨some 17, .bin .add .no (.const (.int .i64 1970)) (.tmp 16), none⟩,
          ⟨some 6, .mov (.tmp 17), none⟩]) (
        .seq (
          .block 0 (
            .loop (
              .seq (
                .seq (
                  .region [
                    ⟨some 18, .mov (.tmp 6), none⟩,
                    ⟨some 19, .bin .lss .no (.tmp 18) (.const (.int .i64 9999)), none⟩,
                    ⟨some 20, .mov (.tmp 19), none⟩,
                    ⟨some 21, .mov (.tmp 6), some (20, true)⟩,
                    ⟨some 22, .bin .add .no (.tmp 21) (.const (.int .i64 1)), some (20, true)⟩,
                    ⟨some 23, .call (.fn 306) [(.tmp 22)], some (20, true)⟩,
                    ⟨some 24, .mov (.tmp 0), some (20, true)⟩,
                    ⟨some 25, .bin .leq .no (.tmp 23) (.tmp 24), some (20, true)⟩,
                    ⟨some 26, .pick (.tmp 20) (.tmp 25) (.const (.bool false)), none⟩]) (
                  .cond (.tmp 26) (
                    .skip) (
                    .exit 0))) (
                .block 1 (
                  .region [
                    ⟨some 27, .mov (.tmp 6), none⟩,
                    ⟨some 28, .bin .add .no (.tmp 27) (.const (.int .i64 1)), none⟩,
                    ⟨some 6, .mov (.tmp 28), none⟩]))))) (
          .seq (
            .region [
              ⟨some 29, .mov (.tmp 0), none⟩,
              ⟨some 30, .mov (.tmp 6), none⟩,
              ⟨some 31, .call (.fn 306) [(.tmp 30)], none⟩,
              ⟨some 32, .bin .sub .no (.tmp 29) (.tmp 31), none⟩,
              ⟨some 7, .mov (.tmp 32), none⟩]) (
            .seq (
              .region [
                ⟨some 8, .mov (.const (.int .i64 1)), none⟩]) (
              .seq (
                .block 2 (
                  .loop (
                    .seq (
                      .seq (
                        .region [
                          ⟨some 33, .mov (.tmp 7), none⟩,
                          ⟨some 34, .mov (.tmp 6), none⟩,
                          ⟨some 35, .mov (.tmp 8), none⟩,
                          ⟨some 36, .call (.fn 307) [(.tmp 34), (.tmp 35)], none⟩,
                          ⟨some 37, .bin .geq .no (.tmp 33) (.tmp 36), none⟩]) (
                        .cond (.tmp 37) (
                          .skip) (
                          .exit 2))) (
                      .block 3 (
                        .seq (
                          .region [
                            ⟨some 38, .mov (.tmp 7), none⟩,
                            ⟨some 39, .mov (.tmp 6), none⟩,
                            ⟨some 40, .mov (.tmp 8), none⟩,
                            ⟨some 41, .call (.fn 307) [(.tmp 39), (.tmp 40)], none⟩,
                            ⟨some 42, .bin .sub .no (.tmp 38) (.tmp 41), none⟩,
                            ⟨some 7, .mov (.tmp 42), none⟩]) (
                          .region [
                            ⟨some 43, .mov (.tmp 8), none⟩,
                            ⟨some 44, .bin .add .no (.tmp 43) (.const (.int .i64 1)), none⟩,
                            ⟨some 8, .mov (.tmp 44), none⟩])))))) (
                .seq (
                  .region [
                    ⟨some 45, .mov (.tmp 6), none⟩,
                    ⟨some 46, .mov (.tmp 8), none⟩,
                    ⟨some 47, .mov (.tmp 7), none⟩,
                    ⟨some 48, .bin .add .no (.tmp 47) (.const (.int .i64 1)), none⟩,
                    ⟨some 2, .mov (.tmp 45), none⟩,
                    ⟨some 3, .mov (.tmp 46), none⟩,
                    ⟨some 4, .mov (.tmp 48), none⟩,
                    ⟨some 5, .mov (.const (.int .i64 0)), none⟩]) (
                  .ret))))))))) }

/-- posthorn/date.two -/
def F_date_two : ACFn := { nt := 14, results := [.tmp 2], body := (
  .seq (
    .region [
      ⟨some 2, .mov (.const (.str [])), none⟩]) (
    .seq (
      .region [
        ⟨some 3, .mov (.tmp 0), none⟩,
        ⟨some 4, .bin .quo .no (.tmp 3) (.const (.int .i64 10)), none⟩,
        ⟨some 5, .bin .rem .no (.tmp 4) (.const (.int .i64 10)), none⟩,
        ⟨some 6, .bin .add .no (.const (.int .i64 48)) (.tmp 5), none⟩,
        ⟨some 7, .cInt .u8 (.tmp 6), none⟩,
        ⟨some 8, .mov (.tmp 0), none⟩,
        ⟨some 9, .bin .rem .no (.tmp 8) (.const (.int .i64 10)), none⟩,
        ⟨some 10, .bin .add .no (.const (.int .i64 48)) (.tmp 9), none⟩,
        ⟨some 11, .cInt .u8 (.tmp 10), none⟩,
        ⟨some 12, .lit8 2 [(0, (.tmp 7)), (1, (.tmp 11))], none⟩,
        ⟨some 13, .cB2S false (.tmp 12), none⟩,
        ⟨some 2, .mov (.tmp 13), none⟩]) (
      .ret))) }

/-- posthorn/date.dayName -/
def F_date_dayName : ACFn := { nt := 8, results := [.tmp 2], body := (
  .seq (
    .region [
      ⟨some 2, .mov (.const (.str [])), none⟩]) (
    .seq (
      .region [
        ⟨some 4, .build [.str [], .str [], .str [], .str [], .str [], .str [], .str []] [(0, 1, (.const (.str [77, 111, 110]))), (1, 1, (.const (.str [84, 117, 101]))), (2, 1, (.const (.str [87, 101, 100]))), (3, 1, (.const (.str [84, 104, 117]))), (4, 1, (.const (.str [70, 114, 105]))), (5, 1, (.const (.str [83, 97, 116]))), (6, 1, (.const (.str [83, 117, 110])))], none⟩,
        ⟨some 3, .alloc [.str [], .str [], .str [], .str [], .str [], .str [], .str []], none⟩,
        ⟨none, .store 7 (.tmp 3) (.tmp 4), none⟩]) (
      .seq (
        .region [
          ⟨some 5, .mov (.tmp 0), none⟩,
          ⟨some 6, .iaddrA 7 1 (.tmp 3) (.tmp 5), none⟩,
          ⟨some 7, .load false 1 (.tmp 6), none⟩,
          ⟨some 2, .mov (.tmp 7), none⟩]) (
        .ret)))) }

/-- posthorn/date.monthName -/
def F_date_monthName : ACFn := { nt := 8, results := [.tmp 2], body := (
  .seq (
    .region [
      ⟨some 2, .mov (.const (.str [])), none⟩]) (
    .seq (
      .region [
        ⟨some 4, .build [.str [], .str [], .str [], .str [], .str [], .str [], .str [], .str [], .str [], .str [], .str [], .str [], .str []] [(0, 1, (.const (.str []))), (1, 1, (.const (.str [74, 97, 110]))), (2, 1, (.const (.str [70, 101, 98]))), (3, 1, (.const (.str [77, 97, 114]))), (4, 1, (.const (.str [65, 112, 114]))), (5, 1, (.const (.str [77, 97, 121]))), (6, 1, (.const (.str [74, 117, 110]))), (7, 1, (.const (.str [74, 117, 108]))), (8, 1, (.const (.str [65, 117, 103]))), (9, 1, (.const (.str [83, 101, 112]))), (10, 1, (.const (.str [79, 99, 116]))), (11, 1, (.const (.str [78, 111, 118]))), (12, 1, (.const (.str [68, 101, 99])))], none⟩,
        ⟨some 3, .alloc [.str [], .str [], .str [], .str [], .str [], .str [], .str [], .str [], .str [], .str [], .str [], .str [], .str []], none⟩,
        ⟨none, .store 13 (.tmp 3) (.tmp 4), none⟩]) (
      .seq (
        .region [
          ⟨some 5, .mov (.tmp 0), none⟩,
          ⟨some 6, .iaddrA 13 1 (.tmp 3) (.tmp 5), none⟩,
          ⟨some 7, .load false 1 (.tmp 6), none⟩,
          ⟨some 2, .mov (.tmp 7), none⟩]) (
        .ret)))) }

/-- posthorn/posthornref20.shift -/
def F_posthornref20_shift : ACFn := { nt := 14, results := [.tmp 2], body := (
  .seq (
    .region [
      ⟨some 2, .mov (.const (.bool false)), none⟩]) (
    .seq (
      .region [
        ⟨some 3, .mov (.tmp 0), none⟩,
        ⟨some 4, .bin .rem .no (.tmp 3) (.const (.int .i64 60)), none⟩,
        ⟨some 5, .bin .eql .no (.tmp 4) (.const (.int .i64 0)), none⟩,
        ⟨some 6, .mov (.tmp 5), none⟩,
        ⟨some 7, .mov (.tmp 0), some (6, true)⟩,
        ⟨some 8, .bin .gtr .no (.tmp 7) (.const (.int .i64 (-86400))), some (6, true)⟩,
        ⟨some 9, .pick (.tmp 6) (.tmp 8) (.const (.bool false)), none⟩,
        ⟨some 10, .mov (.tmp 9), none⟩,
        ⟨some 11, .mov (.tmp 0), some (10, true)⟩,
        ⟨some 12, .bin .lss .no (.tmp 11) (.const (.int .i64 86400)), some (10, true)⟩,
        ⟨some 13, .pick (.tmp 10) (.tmp 12) (.const (.bool false)), none⟩,
        ⟨some 2, .mov (.tmp 13), none⟩]) (
      .ret))) }

/-- posthorn/posthornref12.Civil -/
def F_posthornref12_Civil : ACFn := { nt := 42, results := [.tmp 2, .tmp 3, .tmp 4, .tmp 5], body := (
  .seq (
    .region [
      ⟨some 2, .mov (.const (.int .i64 0)), none⟩,
      ⟨some 3, .mov (.const (.int .i64 0)), none⟩,
      ⟨some 4, .mov (.const (.int .i64 0)), none⟩,
      ⟨some 5, .mov (.const (.int .i64 0)), none⟩]) (
    .seq (
      .seq (
        .region [
          ⟨some 9, .mov (.tmp 0), none⟩,
          ⟨some 10, .bin .lss .no (.tmp 9) (.const (.int .i64 0)), none⟩,
          ⟨some 11, .mov (.tmp 10), none⟩,
          ⟨some 12, .mov (.tmp 0), some (11, false)⟩,
          ⟨some 13, .bin .gtr .no (.tmp 12) (.const (.int .i64 2932896)), some (11, false)⟩,
          ⟨some 14, .pick (.tmp 11) (.const (.bool true)) (.tmp 13), none⟩]) (
        .cond (.tmp 14) (
          .seq (
            .region [
              ⟨some 2, .mov (.const (.int .i64 0)), none⟩,
              ⟨some 3, .mov (.const (.int .i64 0)), none⟩,
              ⟨some 4, .mov (.const (.int .i64 0)), none⟩,
              ⟨some 5, .mov (.const (.int .i64 110)), none⟩]) (
            .ret)) (
          .skip))) (
      .seq (
        .region [
          ⟨some 15, .mov (.tmp 0), none⟩,
          ⟨some 6, .mov (.tmp 15), none⟩]) (
        .seq (
          .region [
            ⟨some 7, .mov (.const (.int .i64 1970)), none⟩,
            ⟨some 8, .mov (.const (.int .i64 1)), none⟩]) (
          .seq (
            .block 0 (
              .loop (
                .seq (
                  .seq (
                    .region [
                      ⟨some 16, .mov (.tmp 6), none⟩,
                      ⟨some 17, .mov (.tmp 7), none⟩,
                      ⟨some 18, .call (.fn 308) [(.tmp 17)], none⟩,
                      ⟨some 19, .bin .geq .no (.tmp 16) (.tmp 18), none⟩]) (
                    .cond (.tmp 19) (
                      .skip) (
                      .exit 0))) (
                  .block 1 (
                    .seq (
                      .region [
                        ⟨some 20, .mov (.tmp 6), none⟩,
                        ⟨some 21, .mov (.tmp 7), none⟩,
                        ⟨some 22, .call (.fn 308) [(.tmp 21)], none⟩,
                        ⟨some 23, .bin .sub .no (.tmp 20) (.tmp 22), none⟩,
                        ⟨some 6, .mov (.tmp 23), none⟩]) (
                      .region [
                        ⟨some 24, .mov (.tmp 7), none⟩,
                        ⟨some 25, .bin .add .no (.tmp 24) (.const (.int .i64 1)), none⟩,
                        ⟨some 7, .mov (.tmp 25), none⟩])))))) (
            .seq (
              .block 2 (
                .loop (
                  .seq (
                    .seq (
                      .region [
                        ⟨some 26, .mov (.tmp 6), none⟩,
                        ⟨some 27, .mov (.tmp 7), none⟩,
                        ⟨some 28, .mov (.tmp 8), none⟩,
                        ⟨some 29, .call (.fn 309) [(.tmp 27), (.tmp 28)], none⟩,
                        ⟨some 30, .bin .geq .no (.tmp 26) (.tmp 29), none⟩]) (
                      .cond (.tmp 30) (
                        .skip) (
                        .exit 2))) (
                    .block 3 (
                      .seq (
                        .region [
                          ⟨some 31, .mov (.tmp 6), none⟩,
                          ⟨some 32, .mov (.tmp 7), none⟩,
                          ⟨some 33, .mov (.tmp 8), none⟩,
                          ⟨some 34, .call (.fn 309) [(.tmp 32), (.tmp 33)], none⟩,
                          ⟨some 35, .bin .sub .no (.tmp 31) (.tmp 34), none⟩,
                          ⟨some 6, .mov (.tmp 35), none⟩]) (
                        .region [
                          ⟨some 36, .mov (.tmp 8), none⟩,
                          ⟨some 37, .bin .add .no (.tmp 36) (.const (.int .i64 1)), none⟩,
                          ⟨some 8, .mov (.tmp 37), none⟩])))))) (
              .seq (
                .region [
                  ⟨some 38, .mov (.tmp 7), none⟩,
                  ⟨some 39, .mov (.tmp 8), none⟩,
                  ⟨some 40, .mov (.tmp 6), none⟩,
                  ⟨some 41, .bin .add .no (.tmp 40) (.const (.int .i64 1)), none⟩,
                  ⟨some 2, .mov (.tmp 38), none⟩,
                  ⟨some 3, .mov (.tmp 39), none⟩,
                  ⟨some 4, .mov (.tmp 41), none⟩,
                  ⟨some 5, .mov (.const (.int .i64 0)), none⟩]) (
                .ret)))))))) }

/-- posthorn/posthornref20.Day -/
def F_posthornref20_Day : ACFn := { nt := 9, results := [.tmp 2], body := (
  .seq (
    .region [
      ⟨some 2, .mov (.const (.str [])), none⟩]) (
    .seq (
      .region [
        ⟨some 3, .mov (.tmp 0), none⟩,
        ⟨some 4, .bin .mul .no (.const (.int .i64 3)) (.tmp 3), none⟩,
        ⟨some 5, .mov (.tmp 0), none⟩,
        ⟨some 6, .bin .mul .no (.const (.int .i64 3)) (.tmp 5), none⟩,
        ⟨some 7, .bin .add .no (.tmp 6) (.const (.int .i64 3)), none⟩,
        ⟨some 8, .slc 0 (.const (.str [77, 111, 110, 84, 117, 101, 87, 101, 100, 84, 104, 117, 70, 114, 105, 83, 97, 116, 83, 117, 110])) (some (.tmp 4)) (some (.tmp 7)) none, none⟩,
        ⟨some 2, .mov (.tmp 8), none⟩]) (
      .ret))) }

/-- posthorn/posthornref12.Digits -/
def F_posthornref12_Digits : ACFn := { nt := 23, results := [.tmp 4], body := (
  .seq (
    .region [
      ⟨some 4, .mov (.const (.str [])), none⟩]) (
    .seq (
      .region [
        ⟨some 5, .mov (.const (.str [])), none⟩]) (
      .seq (
        .seq (
          .region [
            ⟨some 6, .mov (.const (.int .i64 0)), none⟩]) (
          .block 0 (
            .loop (
              .seq (
                .seq (
                  .region [
                    ⟨some 7, .mov (.tmp 6), none⟩,
                    ⟨some 8, .mov (.tmp 1), none⟩,
                    ⟨some 9, .bin .lss .no (.tmp 7) (.tmp 8), none⟩]) (
                  .cond (.tmp 9) (
                    .skip) (
                    .exit 0))) (
                .seq (
                  .block 1 (
                    .seq (
                      .region [
                        ⟨some 12, .mov (.tmp 0), none⟩,
                        ⟨some 13, .bin .rem .no (.tmp 12) (.const (.int .i64 10)), none⟩,
                        ⟨some 14, .bin .add .no (.const (.int .i64 48)) (.tmp 13), none⟩,
                        ⟨some 15, .cInt .u8 (.tmp 14), none⟩,
                        ⟨some 16, .lit8 1 [(0, (.tmp 15))], none⟩,
                        ⟨some 17, .cB2S false (.tmp 16), none⟩,
                        ⟨some 18, .mov (.tmp 5), none⟩,
                        ⟨some 19, .bin .add .no (.tmp 17) (.tmp 18), none⟩,
                        ⟨some 5, .mov (.tmp 19), none⟩]) (
                      .region [
                        ⟨some 20, .mov (.tmp 0), none⟩,
                        ⟨some 21, .bin .quo .no (.tmp 20) (.const (.int .i64 10)), none⟩,
                        ⟨some 0, .mov (.tmp 21), none⟩]))) (
                  .region [
                    ⟨some 10, .mov (.tmp 6), none⟩,
                    ⟨some 11, .bin .add .no (.tmp 10) (.const (.int .i64 1)), none⟩,
                    ⟨some 6, .mov (.tmp 11), none⟩])))))) (
        .seq (
          .region [
            ⟨some 22, .mov (.tmp 5), none⟩,
            ⟨some 4, .mov (.tmp 22), none⟩]) (
          .ret))))) }

/-- posthorn/posthornref20.Month -/
def F_posthornref20_Month : ACFn := { nt := 9, results := [.tmp 2], body := (
  .seq (
    .region [
      ⟨some 2, .mov (.const (.str [])), none⟩]) (
    .seq (
      .region [
        ⟨some 3, .mov (.tmp 0), none⟩,
        ⟨some 4, .bin .mul .no (.const (.int .i64 3)) (.tmp 3), none⟩,
        ⟨some 5, .bin .sub .no (.tmp 4) (.const (.int .i64 3)), none⟩,
        ⟨some 6, .mov (.tmp 0), none⟩,
        ⟨some 7, .bin .mul .no (.const (.int .i64 3)) (.tmp 6), none⟩,
        ⟨some 8, .slc 0 (.const (.str [74, 97, 110, 70, 101, 98, 77, 97, 114, 65, 112, 114, 77, 97, 121, 74, 117, 110, 74, 117, 108, 65, 117, 103, 83, 101, 112, 79, 99, 116, 78, 111, 118, 68, 101, 99])) (some (.tmp 5)) (some (.tmp 7)) none, none⟩,
        ⟨some 2, .mov (.tmp 8), none⟩]) (
      .ret))) }

/-- posthorn/date.bare -/
def F_date_bare : ACFn := { nt := 29, results := [.tmp 2], body := (
  .seq (
    .region [
      ⟨some 2, .mov (.const (.str [])), none⟩]) (
    .seq (
      .region [
        ⟨some 3, .alloc [.bslot, .nils], none⟩]) (
      .block 0 (
        .loop (
          .block 1 (
            .seq (
              .region [
                ⟨some 8, .mov (.tmp 0), none⟩,
                ⟨some 9, .call (.fn 128) [(.tmp 8), (.const (.str [40]))], none⟩,
                ⟨some 7, .mov (.tmp 9), none⟩,
                ⟨some 10, .ext 0 (.tmp 7), none⟩,
                ⟨some 11, .ext 1 (.tmp 7), none⟩,
                ⟨some 12, .ext 2 (.tmp 7), none⟩,
                ⟨some 4, .mov (.tmp 10), none⟩,
                ⟨some 5, .mov (.tmp 11), none⟩,
                ⟨some 6, .mov (.tmp 12), none⟩]) (
              .seq (
                .region [
                  ⟨some 13, .mov (.tmp 4), none⟩,
                  ⟨some 14, .call (.fn 58) [(.tmp 3), (.tmp 13)], none⟩]) (
                .seq (
                  .seq (
                    .region [
                      ⟨some 15, .mov (.tmp 6), none⟩,
                      ⟨some 16, .un .not (.tmp 15), none⟩]) (
                    .cond (.tmp 16) (
                      .seq (
                        .region [
                          ⟨some 17, .call (.fn 59) [(.tmp 3)], none⟩,
                          ⟨some 2, .mov (.tmp 17), none⟩]) (
                        .ret)) (
                      .skip))) (
                  .seq (
                    .region [
                      ⟨some 19, .mov (.tmp 5), none⟩,
                      ⟨some 20, .call (.fn 128) [(.tmp 19), (.const (.str [41]))], none⟩,
                      ⟨some 18, .mov (.tmp 20), none⟩,
                      ⟨some 21, .ext 0 (.tmp 18), none⟩,
                      ⟨some 22, .ext 1 (.tmp 18), none⟩,
                      ⟨some 23, .ext 2 (.tmp 18), none⟩,
                      ⟨some 0, .mov (.tmp 22), none⟩,
                      ⟨some 6, .mov (.tmp 23), none⟩]) (
                    .seq (
                      .seq (
                        .region [
                          ⟨some 24, .mov (.tmp 6), none⟩,
                          ⟨some 25, .un .not (.tmp 24), none⟩]) (
                        .cond (.tmp 25) (
                          .seq (
                            .region [
                              ⟨some 26, .call (.fn 59) [(.tmp 3)], none⟩,
                              ⟨some 27, .bin .add .no (.tmp 26) (.const (.str [40])), none⟩,
                              ⟨some 2, .mov (.tmp 27), none⟩]) (
                            .ret)) (
                          .skip))) (
                      .region [
                        ⟨some 28, .call (.fn 57) [(.tmp 3), (.const (.b8 32))], none⟩]))))))))))) }

/-- posthorn/date.words -/
def F_date_words : ACFn := { nt := 4, results := [.tmp 2], body := (
  .seq (
    .region [
      ⟨some 1, .box (.tmp 0), none⟩,
      ⟨some 2, .mov (.const (.nilf)), none⟩]) (
    .seq (
      .region [
        ⟨some 3, .mkfn 310 [(.tmp 1)], none⟩,
        ⟨some 2, .mov (.tmp 3), none⟩]) (
      .ret))) }

/-- posthorn/date.weekday -/
def F_date_weekday : ACFn := { nt := 58, results := [.tmp 2, .tmp 3], body := (
  .seq (
    .region [
      ⟨some 2, .mov (.const (.int .i64 0)), none⟩,
      ⟨some 3, .mov (.const (.nils)), none⟩]) (
    .seq (
      .seq (
        .region [
          ⟨some 8, .mov (.tmp 0), none⟩,
          ⟨some 9, .len false (.tmp 8), none⟩,
          ⟨some 10, .bin .eql .no (.tmp 9) (.const (.int .i64 0)), none⟩]) (
        .cond (.tmp 10) (
          .seq (
            .region [
              ⟨some 2, .mov (.const (.int .i64 (-2))), none⟩,
              ⟨some 3, .mov (.const (.nils)), none⟩]) (
            .ret)) (
          .skip))) (
      .seq (
        .region [
          ⟨some 12, .mov (.tmp 0), none⟩,
          ⟨some 13, .iaddr 1 (.tmp 12) (.const (.int .i64 0)), none⟩,
          ⟨some 14, .load false 1 (.tmp 13), none⟩,
          ⟨some 15, .call (.fn 128) [(.tmp 14), (.const (.str [44]))], none⟩,
          ⟨some 11, .mov (.tmp 15), none⟩,
          ⟨some 16, .ext 0 (.tmp 11), none⟩,
          ⟨some 17, .ext 1 (.tmp 11), none⟩,
          ⟨some 18, .ext 2 (.tmp 11), none⟩,
          ⟨some 4, .mov (.tmp 16), none⟩,
          ⟨some 5, .mov (.tmp 17), none⟩,
          ⟨some 6, .mov (.tmp 18), none⟩]) (
        .seq (
          .seq (
            .region [
              ⟨some 19, .mov (.tmp 6), none⟩,
              ⟨some 20, .un .not (.tmp 19), none⟩,
              ⟨some 21, .mov (.tmp 20), none⟩,
              ⟨some 22, .mov (.tmp 0), some (21, true)⟩,
              ⟨some 23, .len false (.tmp 22), some (21, true)⟩,
              ⟨some 24, .bin .gtr .no (.tmp 23) (.const (.int .i64 1)), some (21, true)⟩,
              ⟨some 25, .pick (.tmp 21) (.tmp 24) (.const (.bool false)), none⟩,
              ⟨some 26, .mov (.tmp 25), none⟩,
              ⟨some 27, .mov (.tmp 0), some (26, true)⟩,
              ⟨some 28, .iaddr 1 (.tmp 27) (.const (.int .i64 1)), some (26, true)⟩,
              ⟨some 29, .load false 1 (.tmp 28), some (26, true)⟩,
              ⟨some 30, .call (.fn 72) [(.tmp 29), (.const (.str [44]))], some (26, true)⟩,
              ⟨some 31, .pick (.tmp 26) (.tmp 30) (.const (.bool false)), none⟩]) (
            .cond (.tmp 31) (
              .seq (
                .region [
                  ⟨some 32, .mov (.tmp 0), none⟩,
                  ⟨some 33, .iaddr 1 (.tmp 32) (.const (.int .i64 0)), none⟩,
                  ⟨some 34, .load false 1 (.tmp 33), none⟩,
                  ⟨some 35, .mov (.tmp 0), none⟩,
                  ⟨some 36, .iaddr 1 (.tmp 35) (.const (.int .i64 1)), none⟩,
                  ⟨some 37, .load false 1 (.tmp 36), none⟩,
                  ⟨some 38, .slc 0 (.tmp 37) (some (.const (.int .i64 1))) none none, none⟩,
                  ⟨some 4, .mov (.tmp 34), none⟩,
                  ⟨some 5, .mov (.tmp 38), none⟩,
                  ⟨some 6, .mov (.const (.bool true)), none⟩]) (
                .region [
                  ⟨some 39, .mov (.tmp 0), none⟩,
                  ⟨some 40, .slc 1 (.tmp 39) (some (.const (.int .i64 1))) none none, none⟩,
                  ⟨some 0, .mov (.tmp 40), none⟩])) (
              .skip))) (
          .seq (
            .seq (
              .region [
                ⟨some 41, .mov (.tmp 6), none⟩,
                ⟨some 42, .un .not (.tmp 41), none⟩]) (
              .cond (.tmp 42) (
                .seq (
                  .region [
                    ⟨some 43, .mov (.tmp 0), none⟩,
                    ⟨some 2, .mov (.const (.int .i64 (-1))), none⟩,
                    ⟨some 3, .mov (.tmp 43), none⟩]) (
                  .ret)) (
                .skip))) (
            .seq (
              .region [
                ⟨some 44, .mov (.tmp 4), none⟩,
                ⟨some 45, .call (.fn 288) [(.tmp 44), (.const (.int .i64 7)), (.fn 277)], none⟩,
                ⟨some 7, .mov (.tmp 45), none⟩]) (
              .seq (
                .seq (
                  .region [
                    ⟨some 46, .mov (.tmp 7), none⟩,
                    ⟨some 47, .bin .lss .no (.tmp 46) (.const (.int .i64 0)), none⟩]) (
                  .cond (.tmp 47) (
                    .seq (
                      .region [
                        ⟨some 2, .mov (.const (.int .i64 (-2))), none⟩,
                        ⟨some 3, .mov (.const (.nils)), none⟩]) (
                      .ret)) (
                    .skip))) (
                .seq (
                  .region [
                    ⟨some 48, .mov (.tmp 0), none⟩,
                    ⟨some 49, .slc 1 (.tmp 48) (some (.const (.int .i64 1))) none none, none⟩,
                    ⟨some 0, .mov (.tmp 49), none⟩]) (
                  .seq (
                    .seq (
                      .region [
                        ⟨some 50, .mov (.tmp 5), none⟩,
                        ⟨some 51, .bin .neq .no (.tmp 50) (.const (.str [])), none⟩]) (
                      .cond (.tmp 51) (
                        .region [
                          ⟨some 52, .mov (.tmp 5), none⟩,
                          ⟨some 53, .lit 1 (.str []) 1 [(0, (.tmp 52))], none⟩,
                          ⟨some 54, .mov (.tmp 0), none⟩,
                          ⟨some 55, .app false 1 (.tmp 53) (.tmp 54), none⟩,
                          ⟨some 0, .mov (.tmp 55), none⟩]) (
                        .skip))) (
                    .seq (
                      .region [
                        ⟨some 56, .mov (.tmp 7), none⟩,
                        ⟨some 57, .mov (.tmp 0), none⟩,
                        ⟨some 2, .mov (.tmp 56), none⟩,
                        ⟨some 3, .mov (.tmp 57), none⟩]) (
                      .ret))))))))))) }

/-- posthorn/date.digits -/
def F_date_digits : ACFn := { nt := 41, results := [.tmp 6], body := (
  .seq (
    .region [
      ⟨some 6, .mov (.const (.int .i64 0)), none⟩]) (
    .seq (
      .region [
        ⟨some 7, .mov (.const (.int .i64 0)), none⟩]) (
      .seq (
        .seq (
          .region [
            ⟨some 9, .mov (.tmp 0), none⟩,
            ⟨some 10, .len true (.tmp 9), none⟩,
            ⟨some 11, .mov (.const (.int .i64 0)), none⟩]) (
          .block 0 (
            .loop (
              .seq (
                .region [
                  ⟨some 12, .bin .lss .no (.tmp 11) (.tmp 10), none⟩]) (
                .seq (
                  .cond (.tmp 12) (
                    .skip) (
                    .exit 0)) (
                  .seq (
                    .block 1 (
                      .seq (
                        .region [
                          ⟨some 13, .mov (.tmp 11), none⟩,
                          ⟨some 8, .mov (.tmp 13), none⟩]) (
                        .seq (
                          .seq (
                            .region [
                              ⟨some 14, .mov (.tmp 0), none⟩,
                              ⟨some 15, .mov (.tmp 8), none⟩,
                              ⟨some 16, .idxS (.tmp 14) (.tmp 15), none⟩,
                              ⟨some 17, .bin .lss .no (.tmp 16) (.const (.b8 48)), none⟩,
                              ⟨some 18, .mov (.tmp 17), none⟩,
                              ⟨some 19, .mov (.tmp 0), some (18, false)⟩,
                              ⟨some 20, .mov (.tmp 8), some (18, false)⟩,
                              ⟨some 21, .idxS (.tmp 19) (.tmp 20), some (18, false)⟩,
                              ⟨some 22, .bin .gtr .no (.tmp 21) (.const (.b8 57)), some (18, false)⟩,
                              ⟨some 23, .pick (.tmp 18) (.const (.bool true)) (.tmp 22), none⟩]) (
                            .cond (.tmp 23) (
                              .seq (
                                .region [
                                  ⟨some 6, .mov (.const (.int .i64 (-1))), none⟩]) (
                                .ret)) (
                              .skip))) (
                          .seq (
                            .region [
                              ⟨some 24, .mov (.tmp 7), none⟩,
                              ⟨some 25, .bin .mul .no (.const (.int .i64 10)) (.tmp 24), none⟩,
                              ⟨some 26, .mov (.tmp 0), none⟩,
                              ⟨some 27, .mov (.tmp 8), none⟩,
                              ⟨some 28, .idxS (.tmp 26) (.tmp 27), none⟩,
                              ⟨some 29, .bin .sub .no (.tmp 28) (.const (.b8 48)), none⟩,
                              ⟨some 30, .cInt .i64 (.tmp 29), none⟩,
                              ⟨some 31, .bin .add .no (.tmp 25) (.tmp 30), none⟩,
                              ⟨some 7, .mov (.tmp 31), none⟩]) (
                            .seq (
                              .region [
                                ⟨some 32, .mov (.tmp 8), none⟩,
                                ⟨some 33, .mov (.tmp 2), none⟩,
                                ⟨some 34, .bin .geq .no (.tmp 32) (.tmp 33), none⟩]) (
                              .cond (.tmp 34) (
                                .seq (
                                  .region [
                                    ⟨some 6, .mov (.const (.int .i64 (-1))), none⟩]) (
                                  .ret)) (
                                .skip))))))) (
                    .region [
                      ⟨some 35, .bin .add .no (.tmp 11) (.const (.int .i64 1)), none⟩,
                      ⟨some 11, .mov (.tmp 35), none⟩]))))))) (
        .seq (
          .seq (
            .region [
              ⟨some 36, .mov (.tmp 0), none⟩,
              ⟨some 37, .len true (.tmp 36), none⟩,
              ⟨some 38, .mov (.tmp 1), none⟩,
              ⟨some 39, .bin .lss .no (.tmp 37) (.tmp 38), none⟩]) (
            .cond (.tmp 39) (
              .seq (
                .region [
                  ⟨some 6, .mov (.const (.int .i64 (-1))), none⟩]) (
                .ret)) (
              .skip))) (
          .seq (
            .region [
              ⟨some 40, .mov (.tmp 7), none⟩,
              ⟨some 6, .mov (.tmp 40), none⟩]) (
            .ret)))))) }

/-- posthorn/date.name -/
def F_date_name : ACFn := { nt := 25, results := [.tmp 6], body := (
  .seq (
    .region [
      ⟨some 6, .mov (.const (.int .i64 0)), none⟩]) (
    .seq (
      .seq (
        .region [
          ⟨some 8, .mov (.tmp 1), none⟩,
          ⟨some 9, .mov (.const (.int .i64 0)), none⟩]) (
        .block 0 (
          .loop (
            .seq (
              .region [
                ⟨some 10, .bin .lss .no (.tmp 9) (.tmp 8), none⟩]) (
              .seq (
                .cond (.tmp 10) (
                  .skip) (
                  .exit 0)) (
                .seq (
                  .block 1 (
                    .seq (
                      .region [
                        ⟨some 11, .mov (.tmp 9), none⟩,
                        ⟨some 7, .mov (.tmp 11), none⟩]) (
                      .seq (
                        .region [
                          ⟨some 12, .mov (.tmp 2), none⟩,
                          ⟨some 13, .mov (.tmp 7), none⟩,
                          ⟨some 14, .call (.tmp 12) [(.tmp 13)], none⟩,
                          ⟨some 15, .call (.fn 311) [(.tmp 14)], none⟩,
                          ⟨some 16, .mov (.tmp 0), none⟩,
                          ⟨some 17, .call (.fn 311) [(.tmp 16)], none⟩,
                          ⟨some 18, .bin .eql .no (.tmp 15) (.tmp 17), none⟩,
                          ⟨some 19, .mov (.tmp 18), none⟩,
                          ⟨some 20, .mov (.tmp 0), some (19, true)⟩,
                          ⟨some 21, .bin .neq .no (.tmp 20) (.const (.str [])), some (19, true)⟩,
                          ⟨some 22, .pick (.tmp 19) (.tmp 21) (.const (.bool false)), none⟩]) (
                        .cond (.tmp 22) (
                          .seq (
                            .region [
                              ⟨some 23, .mov (.tmp 7), none⟩,
                              ⟨some 6, .mov (.tmp 23), none⟩]) (
                            .ret)) (
                          .skip))))) (
                  .region [
                    ⟨some 24, .bin .add .no (.tmp 9) (.const (.int .i64 1)), none⟩,
                    ⟨some 9, .mov (.tmp 24), none⟩]))))))) (
      .seq (
        .region [
          ⟨some 6, .mov (.const (.int .i64 (-1))), none⟩]) (
        .ret)))) }

/-- posthorn/date.year -/
def F_date_year : ACFn := { nt := 21, results := [.tmp 2], body := (
  .seq (
    .region [
      ⟨some 2, .mov (.const (.int .i64 0)), none⟩]) (
    .seq (
      .seq (
        .region [
          ⟨some 4, .mov (.tmp 0), none⟩,
          ⟨some 5, .len true (.tmp 4), none⟩,
          ⟨some 6, .bin .eql .no (.tmp 5) (.const (.int .i64 4)), none⟩]) (
        .cond (.tmp 6) (
          .seq (
            .region [
              ⟨some 7, .mov (.tmp 0), none⟩,
              ⟨some 8, .call (.fn 287) [(.tmp 7), (.const (.int .i64 4)), (.const (.int .i64 4))], none⟩,
              ⟨some 2, .mov (.tmp 8), none⟩]) (
            .ret)) (
          .skip))) (
      .seq (
        .region [
          ⟨some 9, .mov (.tmp 0), none⟩,
          ⟨some 10, .call (.fn 287) [(.tmp 9), (.const (.int .i64 2)), (.const (.int .i64 2))], none⟩,
          ⟨some 3, .mov (.tmp 10), none⟩]) (
        .seq (
          .block 0 (
            .seq (
              .region [
                ⟨some 12, .mov (.tmp 3), none⟩,
                ⟨some 13, .bin .lss .no (.tmp 12) (.const (.int .i64 0)), none⟩,
                ⟨some 11, .mov (.tmp 13), none⟩]) (
              .cond (.tmp 11) (
                .seq (
                  .region [
                    ⟨some 2, .mov (.const (.int .i64 (-1))), none⟩]) (
                  .ret)) (
                .seq (
                  .region [
                    ⟨some 15, .mov (.tmp 3), none⟩,
                    ⟨some 16, .bin .lss .no (.tmp 15) (.const (.int .i64 50)), none⟩,
                    ⟨some 14, .mov (.tmp 16), none⟩]) (
                  .cond (.tmp 14) (
                    .seq (
                      .region [
                        ⟨some 17, .mov (.tmp 3), none⟩,
                        ⟨some 18, .bin .add .no (.const (.int .i64 2000)) (.tmp 17), none⟩,
                        ⟨some 2, .mov (.tmp 18), none⟩]) (
                      .ret)) (
                    .skip)))))) (
          .seq (
            .region [
              ⟨some 19, .mov (.tmp 3), none⟩,
              ⟨some 20, .bin .add .no (.const (.int .i64 1900)) (.tmp 19), none⟩,
              ⟨some 2, .mov (.tmp 20), none⟩]) (
            .ret)))))) }

/-- posthorn/date.clock -/
def F_date_clock : ACFn := { nt := 62, results := [.tmp 2], body := (
  .seq (
    .region [
      ⟨some 2, .mov (.const (.int .i64 0)), none⟩]) (
    .seq (
      .region [
        ⟨some 7, .mov (.tmp 0), none⟩,
        ⟨some 8, .call (.fn 133) [(.tmp 7), (.const (.str [58]))], none⟩,
        ⟨some 3, .mov (.tmp 8), none⟩]) (
      .seq (
        .seq (
          .region [
            ⟨some 9, .mov (.tmp 3), none⟩,
            ⟨some 10, .len false (.tmp 9), none⟩,
            ⟨some 11, .bin .lss .no (.tmp 10) (.const (.int .i64 2)), none⟩,
            ⟨some 12, .mov (.tmp 11), none⟩,
            ⟨some 13, .mov (.tmp 3), some (12, false)⟩,
            ⟨some 14, .len false (.tmp 13), some (12, false)⟩,
            ⟨some 15, .bin .gtr .no (.tmp 14) (.const (.int .i64 3)), some (12, false)⟩,
            ⟨some 16, .pick (.tmp 12) (.const (.bool true)) (.tmp 15), none⟩]) (
          .cond (.tmp 16) (
            .seq (
              .region [
                ⟨some 2, .mov (.const (.int .i64 (-1))), none⟩]) (
              .ret)) (
            .skip))) (
        .seq (
          .region [
            ⟨some 17, .mov (.tmp 3), none⟩,
            ⟨some 18, .iaddr 1 (.tmp 17) (.const (.int .i64 0)), none⟩,
            ⟨some 19, .loadc false 1 (.tmp 18), none⟩,
            ⟨some 20, .call (.fn 287) [(.tmp 19), (.const (.int .i64 2)), (.const (.int .i64 2))], none⟩,
            ⟨some 21, .mov (.tmp 3), none⟩,
            ⟨some 22, .iaddr 1 (.tmp 21) (.const (.int .i64 1)), none⟩,
            ⟨some 23, .loadc false 1 (.tmp 22), none⟩,
            ⟨some 24, .call (.fn 287) [(.tmp 23), (.const (.int .i64 2)), (.const (.int .i64 2))], none⟩,
            ⟨some 4, .mov (.tmp 20), none⟩,
            ⟨some 5, .mov (.tmp 24), none⟩,
            ⟨some 6, .mov (.const (.int .i64 0)), none⟩]) (
          .seq (
            .seq (
              .region [
                ⟨some 25, .mov (.tmp 3), none⟩,
                ⟨some 26, .len false (.tmp 25), none⟩,
                ⟨some 27, .bin .eql .no (.tmp 26) (.const (.int .i64 3)), none⟩]) (
              .cond (.tmp 27) (
                .region [
                  ⟨some 28, .mov (.tmp 3), none⟩,
                  ⟨some 29, .iaddr 1 (.tmp 28) (.const (.int .i64 2)), none⟩,
                  ⟨some 30, .loadc false 1 (.tmp 29), none⟩,
                  ⟨some 31, .call (.fn 287) [(.tmp 30), (.const (.int .i64 2)), (.const (.int .i64 2))], none⟩,
                  ⟨some 6, .mov (.tmp 31), none⟩]) (
                .skip))) (
            .seq (
              .seq (
                .region [
                  ⟨some 32, .mov (.tmp 4), none⟩,
                  ⟨some 33, .bin .lss .no (.tmp 32) (.const (.int .i64 0)), none⟩,
                  ⟨some 34, .mov (.tmp 33), none⟩,
                  ⟨some 35, .mov (.tmp 4), some (34, false)⟩,
                  ⟨some 36, .bin .gtr .no (.tmp 35) (.const (.int .i64 23)), some (34, false)⟩,
                  ⟨some 37, .pick (.tmp 34) (.const (.bool true)) (.tmp 36), none⟩,
                  ⟨some 38, .mov (.tmp 37), none⟩,
                  ⟨some 39, .mov (.tmp 5), some (38, false)⟩,
                  ⟨some 40, .bin .lss .no (.tmp 39) (.const (.int .i64 0)), some (38, false)⟩,
                  ⟨some 41, .pick (.tmp 38) (.const (.bool true)) (.tmp 40), none⟩,
                  ⟨some 42, .mov (.tmp 41), none⟩,
                  ⟨some 43, .mov (.tmp 5), some (42, false)⟩,
                  ⟨some 44, .bin .gtr .no (.tmp 43) (.const (.int .i64 59)), some (42, false)⟩,
                  ⟨some 45, .pick (.tmp 42) (.const (.bool true)) (.tmp 44), none⟩,
                  ⟨some 46, .mov (.tmp 45), none⟩,
                  ⟨some 47, .mov (.tmp 6), some (46, false)⟩,
                  ⟨some 48, .bin .lss .no (.tmp 47) (.const (.int .i64 0)), some (46, false)⟩,
                  ⟨some 49, .pick (.tmp 46) (.const (.bool true)) (.tmp 48), none⟩,
                  ⟨some 50, .mov (.tmp 49), none⟩,
                  ⟨some 51, .mov (.tmp 6), some (50, false)⟩,
                  ⟨some 52, .bin .gtr .no (.tmp 51) (.const (.int .i64 60)), some (50, false)⟩,
                  ⟨some 53, .pick (.tmp 50) (.const (.bool true)) (.tmp 52), none⟩]) (
                .cond (.tmp 53) (
                  .seq (
                    .region [
                      ⟨some 2, .mov (.const (.int .i64 (-1))), none⟩]) (
                    .ret)) (
                  .skip))) (
              .seq (
                .region [
                  ⟨some 54, .mov (.tmp 4), none⟩,
                  ⟨some 55, .bin .mul .no (.tmp 54) (.const (.int .i64 3600)), none⟩,
                  ⟨some 56, .mov (.tmp 5), none⟩,
                  ⟨some 57, .bin .mul .no (.tmp 56) (.const (.int .i64 60)), none⟩,
                  ⟨some 58, .bin .add .no (.tmp 55) (.tmp 57), none⟩,
                  ⟨some 59, .mov (.tmp 6), none⟩,
                  ⟨some 60, .mnmx false [(.tmp 59), (.const (.int .i64 59))], none⟩,
                  ⟨some 61, .bin .add .no (.tmp 58) (.tmp 60), none⟩,
                  ⟨some 2, .mov (.tmp 61), none⟩]) (
                .ret)))))))) }

/-- posthorn/date.zone -/
def F_date_zone : ACFn := { nt := 64, results := [.tmp 2, .tmp 3], body := (
  .seq (
    .region [
      ⟨some 2, .mov (.const (.int .i64 0)), none⟩,
      ⟨some 3, .mov (.const (.bool false)), none⟩]) (
    .seq (
      .seq (
        .region [
          ⟨some 7, .mov (.tmp 0), none⟩,
          ⟨some 8, .call (.fn 311) [(.tmp 7)], none⟩]) (
        .block 0 (
          .seq (
            .seq (
              .region [
                ⟨some 10, .bin .eql .no (.tmp 8) (.const (.str [117, 116])), none⟩,
                ⟨some 9, .mov (.tmp 10), none⟩]) (
              .cond (.tmp 9) (
                .skip) (
                .seq (
                  .region [
                    ⟨some 11, .bin .eql .no (.tmp 8) (.const (.str [103, 109, 116])), none⟩,
                    ⟨some 9, .mov (.tmp 11), none⟩]) (
                  .cond (.tmp 9) (
                    .skip) (
                    .seq (
                      .region [
                        ⟨some 12, .bin .eql .no (.tmp 8) (.const (.str [122])), none⟩,
                        ⟨some 9, .mov (.tmp 12), none⟩]) (
                      .cond (.tmp 9) (
                        .skip) (
                        .region [
                          ⟨some 13, .bin .eql .no (.tmp 8) (.const (.str [])), none⟩,
                          ⟨some 9, .mov (.tmp 13), none⟩]))))))) (
            .cond (.tmp 9) (
              .seq (
                .region [
                  ⟨some 2, .mov (.const (.int .i64 0)), none⟩,
                  ⟨some 3, .mov (.const (.bool true)), none⟩]) (
                .ret)) (
              .seq (
                .region [
                  ⟨some 15, .bin .eql .no (.tmp 8) (.const (.str [101, 100, 116])), none⟩,
                  ⟨some 14, .mov (.tmp 15), none⟩]) (
                .cond (.tmp 14) (
                  .seq (
                    .region [
                      ⟨some 2, .mov (.const (.int .i64 (-14400))), none⟩,
                      ⟨some 3, .mov (.const (.bool true)), none⟩]) (
                    .ret)) (
                  .seq (
                    .seq (
                      .region [
                        ⟨some 17, .bin .eql .no (.tmp 8) (.const (.str [101, 115, 116])), none⟩,
                        ⟨some 16, .mov (.tmp 17), none⟩]) (
                      .cond (.tmp 16) (
                        .skip) (
                        .region [
                          ⟨some 18, .bin .eql .no (.tmp 8) (.const (.str [99, 100, 116])), none⟩,
                          ⟨some 16, .mov (.tmp 18), none⟩]))) (
                    .cond (.tmp 16) (
                      .seq (
                        .region [
                          ⟨some 2, .mov (.const (.int .i64 (-18000))), none⟩,
                          ⟨some 3, .mov (.const (.bool true)), none⟩]) (
                        .ret)) (
                      .seq (
                        .seq (
                          .region [
                            ⟨some 20, .bin .eql .no (.tmp 8) (.const (.str [99, 115, 116])), none⟩,
                            ⟨some 19, .mov (.tmp 20), none⟩]) (
                          .cond (.tmp 19) (
                            .skip) (
                            .region [
                              ⟨some 21, .bin .eql .no (.tmp 8) (.const (.str [109, 100, 116])), none⟩,
                              ⟨some 19, .mov (.tmp 21), none⟩]))) (
                        .cond (.tmp 19) (
                          .seq (
                            .region [
                              ⟨some 2, .mov (.const (.int .i64 (-21600))), none⟩,
                              ⟨some 3, .mov (.const (.bool true)), none⟩]) (
                            .ret)) (
                          .seq (
                            .seq (
                              .region [
                                ⟨some 23, .bin .eql .no (.tmp 8) (.const (.str [109, 115, 116])), none⟩,
                                ⟨some 22, .mov (.tmp 23), none⟩]) (
                              .cond (.tmp 22) (
                                .skip) (
                                .region [
                                  ⟨some 24, .bin .eql .no (.tmp 8) (.const (.str [112, 100, 116])), none⟩,
                                  ⟨some 22, .mov (.tmp 24), none⟩]))) (
                            .cond (.tmp 22) (
                              .seq (
                                .region [
                                  ⟨some 2, .mov (.const (.int .i64 (-25200))), none⟩,
                                  ⟨some 3, .mov (.const (.bool true)), none⟩]) (
                                .ret)) (
                              .seq (
                                .region [
                                  ⟨some 26, .bin .eql .no (.tmp 8) (.const (.str [112, 115, 116])), none⟩,
                                  ⟨some 25, .mov (.tmp 26), none⟩]) (
                                .cond (.tmp 25) (
                                  .seq (
                                    .region [
                                      ⟨some 2, .mov (.const (.int .i64 (-28800))), none⟩,
                                      ⟨some 3, .mov (.const (.bool true)), none⟩]) (
                                    .ret)) (
                                  .skip))))))))))))))) (
      .seq (
        .seq (
          .region [
            ⟨some 27, .mov (.tmp 0), none⟩,
            ⟨some 28, .idxS (.tmp 27) (.const (.int .i64 0)), none⟩,
            ⟨some 29, .bin .neq .no (.tmp 28) (.const (.b8 43)), none⟩,
            ⟨some 30, .mov (.tmp 29), none⟩,
            ⟨some 31, .mov (.tmp 0), some (30, true)⟩,
            ⟨some 32, .idxS (.tmp 31) (.const (.int .i64 0)), some (30, true)⟩,
            ⟨some 33, .bin .neq .no (.tmp 32) (.const (.b8 45)), some (30, true)⟩,
            ⟨some 34, .pick (.tmp 30) (.tmp 33) (.const (.bool false)), none⟩,
            ⟨some 35, .mov (.tmp 34), none⟩,
            ⟨some 36, .mov (.tmp 0), some (35, false)⟩,
            ⟨some 37, .slc 0 (.tmp 36) (some (.const (.int .i64 1))) none none, some (35, false)⟩,
            ⟨some 38, .call (.fn 287) [(.tmp 37), (.const (.int .i64 4)), (.const (.int .i64 4))], some (35, false)⟩,
            ⟨some 39, .bin .lss .no (.tmp 38) (.const (.int .i64 0)), some (35, false)⟩,
            ⟨some 40, .pick (.tmp 35) (.const (.bool true)) (.tmp 39), none⟩]) (
          .cond (.tmp 40) (
            .seq (
              .region [
                ⟨some 2, .mov (.const (.int .i64 0)), none⟩,
                ⟨some 3, .mov (.const (.bool false)), none⟩]) (
              .ret)) (
            .skip))) (
        .seq (
          .region [
            ⟨some 41, .mov (.tmp 0), none⟩,
            ⟨some 42, .slc 0 (.tmp 41) (some (.const (.int .i64 1))) (some (.const (.int .i64 3))) none, none⟩,
            ⟨some 43, .call (.fn 287) [(.tmp 42), (.const (.int .i64 2)), (.const (.int .i64 2))], none⟩,
            ⟨some 44, .mov (.tmp 0), none⟩,
            ⟨some 45, .slc 0 (.tmp 44) (some (.const (.int .i64 3))) none none, none⟩,
            ⟨some 46, .call (.fn 287) [(.tmp 45), (.const (.int .i64 2)), (.const (.int .i64 2))], none⟩,
            ⟨some 4, .mov (.tmp 43), none⟩,
            ⟨some 5, .mov (.tmp 46), none⟩]) (
          .seq (
            .region [
              ⟨some 47, .mov (.tmp 4), none⟩,
              ⟨some 48, .bin .mul .no (.tmp 47) (.const (.int .i64 3600)), none⟩,
              ⟨some 49, .mov (.tmp 5), none⟩,
              ⟨some 50, .bin .mul .no (.tmp 49) (.const (.int .i64 60)), none⟩,
              ⟨some 51, .bin .add .no (.tmp 48) (.tmp 50), none⟩,
              ⟨some 6, .mov (.tmp 51), none⟩]) (
            .seq (
              .seq (
                .region [
                  ⟨some 52, .mov (.tmp 0), none⟩,
                  ⟨some 53, .idxS (.tmp 52) (.const (.int .i64 0)), none⟩,
                  ⟨some 54, .bin .eql .no (.tmp 53) (.const (.b8 45)), none⟩]) (
                .cond (.tmp 54) (
                  .region [
                    ⟨some 55, .mov (.tmp 6), none⟩,
                    ⟨some 56, .un .neg (.tmp 55), none⟩,
                    ⟨some 6, .mov (.tmp 56), none⟩]) (
                  .skip))) (
              .seq (
                .region [
                  ⟨some 57, .mov (.tmp 6), none⟩,
                  ⟨some 58, .mov (.tmp 4), none⟩,
                  ⟨some 59, .bin .lss .no (.tmp 58) (.const (.int .i64 24)), none⟩,
                  ⟨some 60, .mov (.tmp 59), none⟩,
                  ⟨some 61, .mov (.tmp 5), some (60, true)⟩,
                  ⟨some 62, .bin .lss .no (.tmp 61) (.const (.int .i64 60)), some (60, true)⟩,
                  ⟨some 63, .pick (.tmp 60) (.tmp 62) (.const (.bool false)), none⟩,
                  ⟨some 2, .mov (.tmp 57), none⟩,
                  ⟨some 3, .mov (.tmp 63), none⟩]) (
                .ret)))))))) }

/-- posthorn/when.Days -/
def F_when_Days : ACFn := { nt := 53, results := [.tmp 6, .tmp 7], body := (
  .seq (
    .region [
      ⟨some 6, .mov (.const (.int .i64 0)), none⟩,
      ⟨some 7, .mov (.const (.int .i64 0)), none⟩]) (
    .seq (
      .seq (
        .region [
          ⟨some 10, .mov (.tmp 0), none⟩,
          ⟨some 11, .bin .lss .no (.tmp 10) (.const (.int .i64 1970)), none⟩,
          ⟨some 12, .mov (.tmp 11), none⟩,
          ⟨some 13, .mov (.tmp 0), some (12, false)⟩,
          ⟨some 14, .bin .gtr .no (.tmp 13) (.const (.int .i64 9999)), some (12, false)⟩,
          ⟨some 15, .pick (.tmp 12) (.const (.bool true)) (.tmp 14), none⟩,
          ⟨some 16, .mov (.tmp 15), none⟩,
          ⟨some 17, .mov (.tmp 1), some (16, false)⟩,
          ⟨some 18, .bin .lss .no (.tmp 17) (.const (.int .i64 1)), some (16, false)⟩,
          ⟨some 19, .pick (.tmp 16) (.const (.bool true)) (.tmp 18), none⟩,
          ⟨some 20, .mov (.tmp 19), none⟩,
          ⟨some 21, .mov (.tmp 1), some (20, false)⟩,
          ⟨some 22, .bin .gtr .no (.tmp 21) (.const (.int .i64 12)), some (20, false)⟩,
          ⟨some 23, .pick (.tmp 20) (.const (.bool true)) (.tmp 22), none⟩,
          ⟨some 24, .mov (.tmp 23), none⟩,
          ⟨some 25, .mov (.tmp 2), some (24, false)⟩,
          ⟨some 26, .bin .lss .no (.tmp 25) (.const (.int .i64 1)), some (24, false)⟩,
          ⟨some 27, .pick (.tmp 24) (.const (.bool true)) (.tmp 26), none⟩,
          ⟨some 28, .mov (.tmp 27), none⟩,
          ⟨some 29, .mov (.tmp 2), some (28, false)⟩,
          ⟨some 30, .mov (.tmp 0), some (28, false)⟩,
          ⟨some 31, .mov (.tmp 1), some (28, false)⟩,
          ⟨some 32, .call (.fn 307) [(.tmp 30), (.tmp 31)], some (28, false)⟩,
          ⟨some 33, .bin .gtr .no (.tmp 29) (.tmp 32), some (28, false)⟩,
          ⟨some 34, .pick (.tmp 28) (.const (.bool true)) (.tmp 33), none⟩]) (
        .cond (.tmp 34) (
          .seq (
            .region [
              ⟨some 6, .mov (.const (.int .i64 0)), none⟩,
              ⟨some 7, .mov (.const (.int .i64 110)), none⟩]) (
            .ret)) (
          .skip))) (
      .seq (
        .region [
          ⟨some 35, .mov (.tmp 0), none⟩,
          ⟨some 36, .call (.fn 306) [(.tmp 35)], none⟩,
          ⟨some 37, .mov (.tmp 2), none⟩,
          ⟨some 38, .bin .add .no (.tmp 36) (.tmp 37), none⟩,
          ⟨some 39, .bin .sub .no (.tmp 38) (.const (.int .i64 1)), none⟩,
          ⟨some 8, .mov (.tmp 39), none⟩]) (
        .seq (
          .seq (
            .region [
              ⟨some 40, .mov (.tmp 1), none⟩,
              ⟨some 41, .mov (.const (.int .i64 0)), none⟩]) (
            .block 0 (
              .loop (
                .seq (
                  .region [
                    ⟨some 42, .bin .lss .no (.tmp 41) (.tmp 40), none⟩]) (
                  .seq (
                    .cond (.tmp 42) (
                      .skip) (
                      .exit 0)) (
                    .seq (
                      .block 1 (
                        .seq (
                          .region [
                            ⟨some 43, .mov (.tmp 41), none⟩,
                            ⟨some 9, .mov (.tmp 43), none⟩]) (
                          .seq (
                            .region [
                              ⟨some 44, .mov (.tmp 9), none⟩,
                              ⟨some 45, .bin .gtr .no (.tmp 44) (.const (.int .i64 0)), none⟩]) (
                            .cond (.tmp 45) (
                              .region [
                                ⟨some 46, .mov (.tmp 8), none⟩,
                                ⟨some 47, .mov (.tmp 0), none⟩,
                                ⟨some 48, .mov (.tmp 9), none⟩,
                                ⟨some 49, .call (.fn 307) [(.tmp 47), (.tmp 48)], none⟩,
                                ⟨some 50, .bin .add .no (.tmp 46) (.tmp 49), none⟩,
                                ⟨some 8, .mov (.tmp 50), none⟩]) (
                              .skip))))) (
                      .region [
                        ⟨some 51, .bin .add .no (.tmp 41) (.const (.int .i64 1)), none⟩,
                        ⟨some 41, .mov (.tmp 51), none⟩]))))))) (
          .seq (
            .region [
              ⟨some 52, .mov (.tmp 8), none⟩,
              ⟨some 6, .mov (.tmp 52), none⟩,
              ⟨some 7, .mov (.const (.int .i64 0)), none⟩]) (
            .ret)))))) }

/-- posthorn/date.isDomain -/
def F_date_isDomain : ACFn := { nt := 6, results := [.tmp 2], body := (
  .seq (
    .region [
      ⟨some 2, .mov (.const (.bool false)), none⟩]) (
    .seq (
      .region [
        ⟨some 3, .mov (.tmp 0), none⟩,
        ⟨some 4, .build [.str [], .str [], .str []] [(1, 1, (.const (.str [120]))), (2, 1, (.tmp 3))], none⟩,
        ⟨some 5, .call (.fn 111) [(.tmp 4)], none⟩,
        ⟨some 2, .mov (.tmp 5), none⟩]) (
      .ret))) }

/-- posthorn/date.five -/
def F_date_five : ACFn := { nt := 17, results := [.tmp 2], body := (
  .seq (
    .region [
      ⟨some 2, .mov (.const (.str [])), none⟩]) (
    .seq (
      .region [
        ⟨some 3, .mov (.const (.str [])), none⟩]) (
      .block 0 (
        .loop (
          .block 1 (
            .seq (
              .region [
                ⟨some 4, .mov (.tmp 0), none⟩,
                ⟨some 5, .bin .and .no (.tmp 4) (.const (.int .u64 31)), none⟩,
                ⟨some 6, .mov (.tmp 0), none⟩,
                ⟨some 7, .bin .and .no (.tmp 6) (.const (.int .u64 31)), none⟩,
                ⟨some 8, .bin .add .no (.tmp 7) (.const (.int .u64 1)), none⟩,
                ⟨some 9, .slc 0 (.const (.str [48, 49, 50, 51, 52, 53, 54, 55, 56, 57, 97, 98, 99, 100, 101, 102, 103, 104, 105, 106, 107, 108, 109, 110, 111, 112, 113, 114, 115, 116, 117, 118])) (some (.tmp 5)) (some (.tmp 8)) none, none⟩,
                ⟨some 10, .mov (.tmp 3), none⟩,
                ⟨some 11, .bin .add .no (.tmp 9) (.tmp 10), none⟩,
                ⟨some 3, .mov (.tmp 11), none⟩]) (
              .seq (
                .region [
                  ⟨some 12, .mov (.tmp 0), none⟩,
                  ⟨some 13, .bin .shr .no (.tmp 12) (.const (.int .u64 5)), none⟩,
                  ⟨some 0, .mov (.tmp 13), none⟩]) (
                .seq (
                  .region [
                    ⟨some 14, .mov (.tmp 0), none⟩,
                    ⟨some 15, .bin .eql .no (.tmp 14) (.const (.int .u64 0)), none⟩]) (
                  .cond (.tmp 15) (
                    .seq (
                      .region [
                        ⟨some 16, .mov (.tmp 3), none⟩,
                        ⟨some 2, .mov (.tmp 16), none⟩]) (
                      .ret)) (
                    .skip)))))))))) }

/-- posthorn/posthornref20.signs -/
def F_posthornref20_signs : ACFn := { nt := 27, results := [.tmp 2], body := (
  .seq (
    .region [
      ⟨some 2, .mov (.const (.str [])), none⟩]) (
    .seq (
      .region [
        ⟨some 5, .mov (.tmp 0), none⟩,
        ⟨some 6, .bin .rem .no (.tmp 5) (.const (.int .u64 32)), none⟩,
        ⟨some 3, .mov (.tmp 6), none⟩]) (
      .seq (
        .region [
          ⟨some 7, .mov (.tmp 3), none⟩,
          ⟨some 8, .bin .add .no (.const (.int .u64 48)) (.tmp 7), none⟩,
          ⟨some 9, .cInt .u8 (.tmp 8), none⟩,
          ⟨some 4, .mov (.tmp 9), none⟩]) (
        .seq (
          .seq (
            .region [
              ⟨some 10, .mov (.tmp 3), none⟩,
              ⟨some 11, .bin .gtr .no (.tmp 10) (.const (.int .u64 9)), none⟩]) (
            .cond (.tmp 11) (
              .region [
                ⟨some 12, .mov (.tmp 3), none⟩,
                ⟨some 13, .bin .add .no (.const (.int .u64 87)) (.tmp 12), none⟩,
                ⟨some 14, .cInt .u8 (.tmp 13), none⟩,
                ⟨some 4, .mov (.tmp 14), none⟩]) (
              .skip))) (
          .seq (
            .seq (
              .region [
                ⟨some 15, .mov (.tmp 0), none⟩,
                ⟨some 16, .bin .lss .no (.tmp 15) (.const (.int .u64 32)), none⟩]) (
              .cond (.tmp 16) (
                .seq (
                  .region [
                    ⟨some 17, .mov (.tmp 4), none⟩,
                    ⟨some 18, .lit8c 1 [(0, (.tmp 17))], none⟩,
                    ⟨some 19, .cB2S false (.tmp 18), none⟩,
                    ⟨some 2, .mov (.tmp 19), none⟩]) (
                  .ret)) (
                .skip))) (
            .seq (
              .region [
                ⟨some 20, .mov (.tmp 0), none⟩,
                ⟨some 21, .bin .quo .no (.tmp 20) (.const (.int .u64 32)), none⟩,
                ⟨some 22, .call (.fn 304) [(.tmp 21)], none⟩,
                ⟨some 23, .mov (.tmp 4), none⟩,
                ⟨some 24, .lit8c 1 [(0, (.tmp 23))], none⟩,
                ⟨some 25, .cB2S false (.tmp 24), none⟩,
                ⟨some 26, .bin .add .no (.tmp 22) (.tmp 25), none⟩,
                ⟨some 2, .mov (.tmp 26), none⟩]) (
              .ret))))))) }

/-- strings.CutPrefix -/
def F_strings_CutPrefix : ACFn := { nt := 11, results := [.tmp 4, .tmp 5], body := (
  .seq (
    .region [
      ⟨some 4, .mov (.const (.str [])), none⟩,
      ⟨some 5, .mov (.const (.bool false)), none⟩]) (
    .seq (
      .region [
        ⟨some 6, .mov (.tmp 0), none⟩,
        ⟨some 7, .mov (.tmp 1), none⟩,
        ⟨some 8, .call (.fn 314) [(.tmp 6), (.tmp 7)], none⟩,
        ⟨some 9, .ext 0 (.tmp 8), none⟩,
        ⟨some 10, .ext 1 (.tmp 8), none⟩,
        ⟨some 4, .mov (.tmp 9), none⟩,
        ⟨some 5, .mov (.tmp 10), none⟩]) (
      .ret))) }

/-- posthorn/when.before -/
def F_when_before : ACFn := { nt := 19, results := [.tmp 2], body := (
  .seq (
    .region [
      ⟨some 2, .mov (.const (.int .i64 0)), none⟩]) (
    .seq (
      .region [
        ⟨some 4, .mov (.tmp 0), none⟩,
        ⟨some 5, .bin .sub .no (.tmp 4) (.const (.int .i64 1)), none⟩,
        ⟨some 3, .mov (.tmp 5), none⟩]) (
      .seq (
        .region [
          ⟨some 6, .mov (.tmp 3), none⟩,
          ⟨some 7, .bin .sub .no (.tmp 6) (.const (.int .i64 1969)), none⟩,
          ⟨some 8, .bin .mul .no (.const (.int .i64 365)) (.tmp 7), none⟩,
          ⟨some 9, .mov (.tmp 3), none⟩,
          ⟨some 10, .bin .quo .no (.tmp 9) (.const (.int .i64 4)), none⟩,
          ⟨some 11, .bin .add .no (.tmp 8) (.tmp 10), none⟩,
          ⟨some 12, .mov (.tmp 3), none⟩,
          ⟨some 13, .bin .quo .no (.tmp 12) (.const (.int .i64 100)), none⟩,
          ⟨some 14, .bin .sub .no (.tmp 11) (.tmp 13), none⟩,
          ⟨some 15, .mov (.tmp 3), none⟩,
          ⟨some 16, .bin .quo .no (.tmp 15) (.const (.int .i64 400)), none⟩,
          ⟨some 17, .bin .add .no (.tmp 14) (.tmp 16), none⟩,
          ⟨some 18, .bin .sub .no (.tmp 17) (.const (.int .i64 477)), none⟩,
          ⟨some 2, .mov (.tmp 18), none⟩]) (
        .ret)))) }

/-- posthorn/when.month -/
def F_when_month : ACFn := { nt := 16, results := [.tmp 4], body := (
  .seq (
    .region [
      ⟨some 4, .mov (.const (.int .i64 0)), none⟩]) (
    .seq (
      .region [
        ⟨some 6, .build [.int .i64 0, .int .i64 0, .int .i64 0, .int .i64 0, .int .i64 0, .int .i64 0, .int .i64 0, .int .i64 0, .int .i64 0, .int .i64 0, .int .i64 0, .int .i64 0, .int .i64 0] [(0, 1, (.const (.int .i64 0))), (1, 1, (.const (.int .i64 31))), (2, 1, (.const (.int .i64 28))), (3, 1, (.const (.int .i64 31))), (4, 1, (.const (.int .i64 30))), (5, 1, (.const (.int .i64 31))), (6, 1, (.const (.int .i64 30))), (7, 1, (.const (.int .i64 31))), (8, 1, (.const (.int .i64 31))), (9, 1, (.const (.int .i64 30))), (10, 1, (.const (.int .i64 31))), (11, 1, (.const (.int .i64 30))), (12, 1, (.const (.int .i64 31)))], none⟩,
        ⟨some 5, .alloc [.int .i64 0, .int .i64 0, .int .i64 0, .int .i64 0, .int .i64 0, .int .i64 0, .int .i64 0, .int .i64 0, .int .i64 0, .int .i64 0, .int .i64 0, .int .i64 0, .int .i64 0], none⟩,
        ⟨none, .store 13 (.tmp 5) (.tmp 6), none⟩]) (
      .seq (
        .seq (
          .region [
            ⟨some 7, .mov (.tmp 1), none⟩,
            ⟨some 8, .bin .eql .no (.tmp 7) (.const (.int .i64 2)), none⟩,
            ⟨some 9, .mov (.tmp 8), none⟩,
            ⟨some 10, .mov (.tmp 0), some (9, true)⟩,
            ⟨some 11, .call (.fn 315) [(.tmp 10)], some (9, true)⟩,
            ⟨some 12, .pick (.tmp 9) (.tmp 11) (.const (.bool false)), none⟩]) (
          .cond (.tmp 12) (
            .seq (
              .region [
                ⟨some 4, .mov (.const (.int .i64 29)), none⟩]) (
              .ret)) (
            .skip))) (
        .seq (
          .region [
            ⟨some 13, .mov (.tmp 1), none⟩,
            ⟨some 14, .iaddrA 13 1 (.tmp 5) (.tmp 13), none⟩,
            ⟨some 15, .load false 1 (.tmp 14), none⟩,
            ⟨some 4, .mov (.tmp 15), none⟩]) (
          .ret))))) }

/-- posthorn/posthornref12.Year -/
def F_posthornref12_Year : ACFn := { nt := 16, results := [.tmp 2], body := (
  .seq (
    .region [
      ⟨some 2, .mov (.const (.int .i64 0)), none⟩]) (
    .seq (
      .seq (
        .region [
          ⟨some 3, .mov (.tmp 0), none⟩,
          ⟨some 4, .bin .rem .no (.tmp 3) (.const (.int .i64 400)), none⟩,
          ⟨some 5, .bin .eql .no (.tmp 4) (.const (.int .i64 0)), none⟩,
          ⟨some 6, .mov (.tmp 5), none⟩,
          ⟨some 7, .mov (.tmp 0), some (6, false)⟩,
          ⟨some 8, .bin .rem .no (.tmp 7) (.const (.int .i64 4)), some (6, false)⟩,
          ⟨some 9, .bin .eql .no (.tmp 8) (.const (.int .i64 0)), some (6, false)⟩,
          ⟨some 10, .mov (.tmp 9), some (6, false)⟩,
          ⟨some 11, .mov (.tmp 0), some (10, true)⟩,
          ⟨some 12, .bin .rem .no (.tmp 11) (.const (.int .i64 100)), some (10, true)⟩,
          ⟨some 13, .bin .neq .no (.tmp 12) (.const (.int .i64 0)), some (10, true)⟩,
          ⟨some 14, .pick (.tmp 10) (.tmp 13) (.const (.bool false)), some (6, false)⟩,
          ⟨some 15, .pick (.tmp 6) (.const (.bool true)) (.tmp 14), none⟩]) (
        .cond (.tmp 15) (
          .seq (
            .region [
              ⟨some 2, .mov (.const (.int .i64 366)), none⟩]) (
            .ret)) (
          .skip))) (
      .seq (
        .region [
          ⟨some 2, .mov (.const (.int .i64 365)), none⟩]) (
        .ret)))) }

/-- posthorn/posthornref12.Month -/
def F_posthornref12_Month : ACFn := { nt := 16, results := [.tmp 4], body := (
  .seq (
    .region [
      ⟨some 4, .mov (.const (.int .i64 0)), none⟩]) (
    .seq (
      .seq (
        .region [
          ⟨some 5, .mov (.tmp 1), none⟩]) (
        .block 0 (
          .seq (
            .seq (
              .region [
                ⟨some 7, .bin .eql .no (.tmp 5) (.const (.int .i64 4)), none⟩,
                ⟨some 6, .mov (.tmp 7), none⟩]) (
              .cond (.tmp 6) (
                .skip) (
                .seq (
                  .region [
                    ⟨some 8, .bin .eql .no (.tmp 5) (.const (.int .i64 6)), none⟩,
                    ⟨some 6, .mov (.tmp 8), none⟩]) (
                  .cond (.tmp 6) (
                    .skip) (
                    .seq (
                      .region [
                        ⟨some 9, .bin .eql .no (.tmp 5) (.const (.int .i64 9)), none⟩,
                        ⟨some 6, .mov (.tmp 9), none⟩]) (
                      .cond (.tmp 6) (
                        .skip) (
                        .region [
                          ⟨some 10, .bin .eql .no (.tmp 5) (.const (.int .i64 11)), none⟩,
                          ⟨some 6, .mov (.tmp 10), none⟩]))))))) (
            .cond (.tmp 6) (
              .seq (
                .region [
                  ⟨some 4, .mov (.const (.int .i64 30)), none⟩]) (
                .ret)) (
              .seq (
                .region [
                  ⟨some 12, .bin .eql .no (.tmp 5) (.const (.int .i64 2)), none⟩,
                  ⟨some 11, .mov (.tmp 12), none⟩]) (
                .cond (.tmp 11) (
                  .seq (
                    .region [
                      ⟨some 13, .mov (.tmp 0), none⟩,
                      ⟨some 14, .call (.fn 308) [(.tmp 13)], none⟩,
                      ⟨some 15, .bin .sub .no (.tmp 14) (.const (.int .i64 337)), none⟩,
                      ⟨some 4, .mov (.tmp 15), none⟩]) (
                    .ret)) (
                  .skip))))))) (
      .seq (
        .region [
          ⟨some 4, .mov (.const (.int .i64 31)), none⟩]) (
        .ret)))) }

/-- posthorn/date.words$1 -/
def F_date_words_c1 : ACFn := { nt := 41, results := [], body := (
  .seq (
    .region [
      ⟨some 3, .mov (.const (.str [])), none⟩]) (
    .seq (
      .seq (
        .region [
          ⟨some 5, .load false 1 (.tmp 1), none⟩,
          ⟨some 6, .len true (.tmp 5), none⟩,
          ⟨some 7, .mov (.const (.int .i64 0)), none⟩]) (
        .block 0 (
          .loop (
            .seq (
              .region [
                ⟨some 8, .bin .lss .no (.tmp 7) (.tmp 6), none⟩]) (
              .seq (
                .cond (.tmp 8) (
                  .skip) (
                  .exit 0)) (
                .seq (
                  .block 1 (
                    .seq (
                      .region [
                        ⟨some 9, .mov (.tmp 7), none⟩,
                        ⟨some 4, .mov (.tmp 9), none⟩]) (
                      .seq (
                        .seq (
                          .region [
                            ⟨some 10, .load false 1 (.tmp 1), none⟩,
                            ⟨some 11, .mov (.tmp 4), none⟩,
                            ⟨some 12, .idxS (.tmp 10) (.tmp 11), none⟩,
                            ⟨some 13, .bin .neq .no (.tmp 12) (.const (.b8 32)), none⟩,
                            ⟨some 14, .mov (.tmp 13), none⟩,
                            ⟨some 15, .load false 1 (.tmp 1), some (14, true)⟩,
                            ⟨some 16, .mov (.tmp 4), some (14, true)⟩,
                            ⟨some 17, .idxS (.tmp 15) (.tmp 16), some (14, true)⟩,
                            ⟨some 18, .bin .neq .no (.tmp 17) (.const (.b8 9)), some (14, true)⟩,
                            ⟨some 19, .pick (.tmp 14) (.tmp 18) (.const (.bool false)), none⟩]) (
                          .cond (.tmp 19) (
                            .seq (
                              .region [
                                ⟨some 20, .mov (.tmp 3), none⟩,
                                ⟨some 21, .load false 1 (.tmp 1), none⟩,
                                ⟨some 22, .mov (.tmp 4), none⟩,
                                ⟨some 23, .mov (.tmp 4), none⟩,
                                ⟨some 24, .bin .add .no (.tmp 23) (.const (.int .i64 1)), none⟩,
                                ⟨some 25, .slc 0 (.tmp 21) (some (.tmp 22)) (some (.tmp 24)) none, none⟩,
                                ⟨some 26, .bin .add .no (.tmp 20) (.tmp 25), none⟩,
                                ⟨some 3, .mov (.tmp 26), none⟩]) (
                              .exit 1)) (
                            .skip))) (
                        .seq (
                          .seq (
                            .region [
                              ⟨some 27, .mov (.tmp 3), none⟩,
                              ⟨some 28, .bin .neq .no (.tmp 27) (.const (.str [])), none⟩,
                              ⟨some 29, .mov (.tmp 28), none⟩,
                              ⟨some 30, .mov (.tmp 0), some (29, true)⟩,
                              ⟨some 31, .mov (.tmp 3), some (29, true)⟩,
                              ⟨some 32, .call (.tmp 30) [(.tmp 31)], some (29, true)⟩,
                              ⟨some 33, .un .not (.tmp 32), some (29, true)⟩,
                              ⟨some 34, .pick (.tmp 29) (.tmp 33) (.const (.bool false)), none⟩]) (
                            .cond (.tmp 34) (
                              .ret) (
                              .skip))) (
                          .region [
                            ⟨some 3, .mov (.const (.str [])), none⟩]))))) (
                  .region [
                    ⟨some 35, .bin .add .no (.tmp 7) (.const (.int .i64 1)), none⟩,
                    ⟨some 7, .mov (.tmp 35), none⟩]))))))) (
      .seq (
        .region [
          ⟨some 36, .mov (.tmp 3), none⟩,
          ⟨some 37, .bin .neq .no (.tmp 36) (.const (.str [])), none⟩]) (
        .cond (.tmp 37) (
          .region [
            ⟨some 38, .mov (.tmp 0), none⟩,
            ⟨some 39, .mov (.tmp 3), none⟩,
            ⟨some 40, .call (.tmp 38) [(.tmp 39)], none⟩]) (
          .skip))))) }

/-- posthorn/date.lower -/
def F_date_lower : ACFn := { nt := 29, results := [.tmp 2], body := (
  .seq (
    .region [
      ⟨some 2, .mov (.const (.str [])), none⟩]) (
    .seq (
      .region [
        ⟨some 6, .mov (.tmp 0), none⟩,
        ⟨some 7, .cS2B true (.tmp 6), none⟩,
        ⟨some 3, .mov (.tmp 7), none⟩]) (
      .seq (
        .seq (
          .region [
            ⟨some 8, .mov (.tmp 3), none⟩,
            ⟨some 9, .len false (.tmp 8), none⟩,
            ⟨some 10, .mov (.const (.int .i64 0)), none⟩]) (
          .block 0 (
            .loop (
              .seq (
                .region [
                  ⟨some 11, .bin .lss .no (.tmp 10) (.tmp 9), none⟩]) (
                .seq (
                  .cond (.tmp 11) (
                    .skip) (
                    .exit 0)) (
                  .seq (
                    .block 1 (
                      .seq (
                        .region [
                          ⟨some 12, .mov (.tmp 10), none⟩,
                          ⟨some 13, .iaddr 1 (.tmp 8) (.tmp 10), none⟩,
                          ⟨some 14, .load false 1 (.tmp 13), none⟩,
                          ⟨some 4, .mov (.tmp 12), none⟩,
                          ⟨some 5, .mov (.tmp 14), none⟩]) (
                        .seq (
                          .region [
                            ⟨some 15, .mov (.tmp 5), none⟩,
                            ⟨some 16, .bin .geq .no (.tmp 15) (.const (.b8 65)), none⟩,
                            ⟨some 17, .mov (.tmp 16), none⟩,
                            ⟨some 18, .mov (.tmp 5), some (17, true)⟩,
                            ⟨some 19, .bin .leq .no (.tmp 18) (.const (.b8 90)), some (17, true)⟩,
                            ⟨some 20, .pick (.tmp 17) (.tmp 19) (.const (.bool false)), none⟩]) (
                          .cond (.tmp 20) (
                            .region [
                              ⟨some 21, .mov (.tmp 3), none⟩,
                              ⟨some 22, .mov (.tmp 4), none⟩,
                              ⟨some 23, .mov (.tmp 5), none⟩,
                              ⟨some 24, .bin .add .no (.tmp 23) (.const (.b8 32)), none⟩,
                              ⟨some 25, .iaddr 1 (.tmp 21) (.tmp 22), none⟩,
                              ⟨none, .store 1 (.tmp 25) (.tmp 24), none⟩]) (
                            .skip))))) (
                    .region [
                      ⟨some 26, .bin .add .no (.tmp 10) (.const (.int .i64 1)), none⟩,
                      ⟨some 10, .mov (.tmp 26), none⟩]))))))) (
        .seq (
          .region [
            ⟨some 27, .mov (.tmp 3), none⟩,
            ⟨some 28, .cB2S true (.tmp 27), none⟩,
            ⟨some 2, .mov (.tmp 28), none⟩]) (
          .ret))))) }

/-- internal/stringslite.CutPrefix -/
def F_internal_stringslite_CutPrefix : ACFn := { nt := 15, results := [.tmp 4, .tmp 5], body := (
  .seq (
    .region [
      ⟨some 4, .mov (.const (.str [])), none⟩,
      ⟨some 5, .mov (.const (.bool false)), none⟩]) (
    .seq (
      .seq (
        .region [
          ⟨some 6, .mov (.tmp 0), none⟩,
          ⟨some 7, .mov (.tmp 1), none⟩,
          ⟨some 8, .call (.fn 79) [(.tmp 6), (.tmp 7)], none⟩,
          ⟨some 9, .un .not (.tmp 8), none⟩]) (
        .cond (.tmp 9) (
          .seq (
            .region [
              ⟨some 10, .mov (.tmp 0), none⟩,
              ⟨some 4, .mov (.tmp 10), none⟩,
              ⟨some 5, .mov (.const (.bool false)), none⟩]) (
            .ret)) (
          .skip))) (
      .seq (
        .region [
          ⟨some 11, .mov (.tmp 0), none⟩,
          ⟨some 12, .mov (.tmp 1), none⟩,
          ⟨some 13, .len true (.tmp 12), none⟩,
          ⟨some 14, .slc 0 (.tmp 11) (some (.tmp 13)) none none, none⟩,
          ⟨some 4, .mov (.tmp 14), none⟩,
          ⟨some 5, .mov (.const (.bool true)), none⟩]) (
        .ret)))) }

/-- posthorn/when.leap -/
def F_when_leap : ACFn := { nt := 16, results := [.tmp 2], body := (
  .seq (
    .region [
      ⟨some 2, .mov (.const (.bool false)), none⟩]) (
    .seq (
      .region [
        ⟨some 3, .mov (.tmp 0), none⟩,
        ⟨some 4, .bin .rem .no (.tmp 3) (.const (.int .i64 4)), none⟩,
        ⟨some 5, .bin .eql .no (.tmp 4) (.const (.int .i64 0)), none⟩,
        ⟨some 6, .mov (.tmp 5), none⟩,
        ⟨some 7, .mov (.tmp 0), some (6, true)⟩,
        ⟨some 8, .bin .rem .no (.tmp 7) (.const (.int .i64 100)), some (6, true)⟩,
        ⟨some 9, .bin .neq .no (.tmp 8) (.const (.int .i64 0)), some (6, true)⟩,
        ⟨some 10, .pick (.tmp 6) (.tmp 9) (.const (.bool false)), none⟩,
        ⟨some 11, .mov (.tmp 10), none⟩,
        ⟨some 12, .mov (.tmp 0), some (11, false)⟩,
        ⟨some 13, .bin .rem .no (.tmp 12) (.const (.int .i64 400)), some (11, false)⟩,
        ⟨some 14, .bin .eql .no (.tmp 13) (.const (.int .i64 0)), some (11, false)⟩,
        ⟨some 15, .pick (.tmp 11) (.const (.bool true)) (.tmp 14), none⟩,
        ⟨some 2, .mov (.tmp 15), none⟩]) (
      .ret))) }

end Go.Ab

/-
  The abstract program: functions by their numbers.
-/
namespace Go.Ab
def prog : AP := fun n => (if n < 219 then (if n < 134 then (if n < 110 then (if n < 72 then (if n < 58 then (if n < 57 then (if n = 56 then some (.code F_posthornref04_Has) else none)
  else (if n = 57 then some (.code F_P_strings_Builder_WriteByte) else none))
  else (if n < 59 then (if n = 58 then some (.code F_P_strings_Builder_WriteString) else none)
  else (if n < 66 then (if n = 59 then some (.primS pBuilderString) else none)
  else (if n = 66 then some (.code F_strings_Contains) else none))))
  else (if n < 78 then (if n < 73 then (if n = 72 then some (.code F_strings_HasPrefix) else none)
  else (if n < 76 then (if n = 73 then some (.primS pCopyCheck) else none)
  else (if n = 76 then some (.code F_strings_Index) else none)))
  else (if n < 79 then (if n = 78 then some (.prim pStrIndexByte) else none)
  else (if n < 82 then (if n = 79 then some (.code F_internal_stringslite_HasPrefix) else none)
  else (if n = 82 then some (.prim pStrIndex) else none)))))
  else (if n < 124 then (if n < 113 then (if n < 111 then (if n = 110 then some (.code F_posthornlaw07_long) else none)
  else (if n = 111 then some (.code F_addr_Right) else none))
  else (if n < 114 then (if n = 113 then some (.code F_addr_Normal) else none)
  else (if n < 115 then (if n = 114 then some (.code F_posthornref04_Lower) else none)
  else (if n = 115 then some (.code F_addr_Plain) else none))))
  else (if n < 127 then (if n < 125 then (if n = 124 then some (.code F_addr_parts) else none)
  else (if n < 126 then (if n = 125 then some (.code F_addr_isAtom) else none)
  else (if n = 126 then some (.code F_addr_isLabel) else none)))
  else (if n < 128 then (if n = 127 then some (.code F_addr_isName) else none)
  else (if n < 133 then (if n = 128 then some (.code F_strings_Cut) else none)
  else (if n = 133 then some (.prim pStrSplit) else none))))))
  else (if n < 167 then (if n < 155 then (if n < 143 then (if n < 135 then (if n = 134 then some (.code F_addr_alnum) else none)
  else (if n = 135 then some (.code F_internal_stringslite_Cut) else none))
  else (if n < 147 then (if n = 143 then some (.code F_posthornlaw06_Great) else none)
  else (if n < 148 then (if n = 147 then some (.code F_fields_Get) else none)
  else (if n = 148 then some (.code F_posthornref06_Get) else none))))
  else (if n < 160 then (if n < 157 then (if n = 155 then some (.code F_fields_Same) else none)
  else (if n < 158 then (if n = 157 then some (.code F_fields_isName) else none)
  else (if n = 158 then some (.code F_fields_isValue) else none)))
  else (if n < 161 then (if n = 160 then some (.code F_posthornref06_Name) else none)
  else (if n < 163 then (if n = 161 then some (.code F_posthornref06_Value) else none)
  else (if n = 163 then some (.code F_posthornref06_Same) else none)))))
  else (if n < 209 then (if n < 170 then (if n < 168 then (if n = 167 then some (.code F_fields_lower) else none)
  else (if n = 168 then some (.code F_fields_trim) else none))
  else (if n < 173 then (if n = 170 then some (.code F_posthornref06_Trim) else none)
  else (if n < 199 then (if n = 173 then some (.code F_posthornref06_blank) else none)
  else (if n = 199 then some (.code F_when_Right) else none))))
  else (if n < 216 then (if n < 213 then (if n = 209 then some (.code F_posthornref12_Time) else none)
  else (if n < 215 then (if n = 213 then some (.code F_posthornref07_Plain) else none)
  else (if n = 215 then some (.code F_posthornref04_Parts) else none)))
  else (if n < 217 then (if n = 216 then some (.code F_posthornref07_Right) else none)
  else (if n < 218 then (if n = 217 then some (.code F_posthornref07_atoms) else none)
  else (if n = 218 then some (.code F_posthornref07_Domain) else none)))))))
  else (if n < 282 then (if n < 269 then (if n < 260 then (if n < 256 then (if n < 220 then (if n = 219 then some (.code F_posthornref07_Atom) else none)
  else (if n = 220 then some (.code F_posthornref07_Letter) else none))
  else (if n < 258 then (if n = 256 then some (.code F_date_Print) else none)
  else (if n < 259 then (if n = 258 then some (.code F_date_Weekday) else none)
  else (if n = 259 then some (.code F_posthornref20_Weekday) else none))))
  else (if n < 266 then (if n < 262 then (if n = 260 then some (.code F_posthornlaw20_alive) else none)
  else (if n < 265 then (if n = 262 then some (.code F_date_Parse) else none)
  else (if n = 265 then some (.code F_date_ID) else none)))
  else (if n < 267 then (if n = 266 then some (.code F_posthornref20_ID) else none)
  else (if n < 268 then (if n = 267 then some (.code F_date_IDs) else none)
  else (if n = 268 then some (.code F_posthornref20_IDs) else none)))))
  else (if n < 276 then (if n < 273 then (if n < 272 then (if n = 269 then some (.code F_posthornlaw20_DateIds) else none)
  else (if n = 272 then some (.code F_posthornlaw20_DateUnlike) else none))
  else (if n < 274 then (if n = 273 then some (.code F_posthornlaw20_DateWeeks) else none)
  else (if n < 275 then (if n = 274 then some (.code F_date_isShift) else none)
  else (if n = 275 then some (.code F_when_Civil) else none))))
  else (if n < 279 then (if n < 277 then (if n = 276 then some (.code F_date_two) else none)
  else (if n < 278 then (if n = 277 then some (.code F_date_dayName) else none)
  else (if n = 278 then some (.code F_date_monthName) else none)))
  else (if n < 280 then (if n = 279 then some (.code F_posthornref20_shift) else none)
  else (if n < 281 then (if n = 280 then some (.code F_posthornref12_Civil) else none)
  else (if n = 281 then some (.code F_posthornref20_Day) else none))))))
  else (if n < 302 then (if n < 287 then (if n < 284 then (if n < 283 then (if n = 282 then some (.code F_posthornref12_Digits) else none)
  else (if n = 283 then some (.code F_posthornref20_Month) else none))
  else (if n < 285 then (if n = 284 then some (.code F_date_bare) else none)
  else (if n < 286 then (if n = 285 then some (.code F_date_words) else none)
  else (if n = 286 then some (.code F_date_weekday) else none))))
  else (if n < 290 then (if n < 288 then (if n = 287 then some (.code F_date_digits) else none)
  else (if n < 289 then (if n = 288 then some (.code F_date_name) else none)
  else (if n = 289 then some (.code F_date_year) else none)))
  else (if n < 291 then (if n = 290 then some (.code F_date_clock) else none)
  else (if n < 292 then (if n = 291 then some (.code F_date_zone) else none)
  else (if n = 292 then some (.code F_when_Days) else none)))))
  else (if n < 308 then (if n < 305 then (if n < 303 then (if n = 302 then some (.code F_date_isDomain) else none)
  else (if n < 304 then (if n = 303 then some (.code F_date_five) else none)
  else (if n = 304 then some (.code F_posthornref20_signs) else none)))
  else (if n < 306 then (if n = 305 then some (.code F_strings_CutPrefix) else none)
  else (if n < 307 then (if n = 306 then some (.code F_when_before) else none)
  else (if n = 307 then some (.code F_when_month) else none))))
  else (if n < 311 then (if n < 309 then (if n = 308 then some (.code F_posthornref12_Year) else none)
  else (if n < 310 then (if n = 309 then some (.code F_posthornref12_Month) else none)
  else (if n = 310 then some (.code F_date_words_c1) else none)))
  else (if n < 314 then (if n = 311 then some (.code F_date_lower) else none)
  else (if n < 315 then (if n = 314 then some (.code F_internal_stringslite_CutPrefix) else none)
  else (if n = 315 then some (.code F_when_leap) else none))))))))
theorem prog_56 : prog 56 = some (.code F_posthornref04_Has) := rfl
theorem prog_57 : prog 57 = some (.code F_P_strings_Builder_WriteByte) := rfl
theorem prog_58 : prog 58 = some (.code F_P_strings_Builder_WriteString) := rfl
theorem prog_59 : prog 59 = some (.primS pBuilderString) := rfl
theorem prog_72 : prog 72 = some (.code F_strings_HasPrefix) := rfl
theorem prog_73 : prog 73 = some (.primS pCopyCheck) := rfl
theorem prog_78 : prog 78 = some (.prim pStrIndexByte) := rfl
theorem prog_79 : prog 79 = some (.code F_internal_stringslite_HasPrefix) := rfl
theorem prog_82 : prog 82 = some (.prim pStrIndex) := rfl
theorem prog_111 : prog 111 = some (.code F_addr_Right) := rfl
theorem prog_115 : prog 115 = some (.code F_addr_Plain) := rfl
theorem prog_124 : prog 124 = some (.code F_addr_parts) := rfl
theorem prog_125 : prog 125 = some (.code F_addr_isAtom) := rfl
theorem prog_126 : prog 126 = some (.code F_addr_isLabel) := rfl
theorem prog_127 : prog 127 = some (.code F_addr_isName) := rfl
theorem prog_128 : prog 128 = some (.code F_strings_Cut) := rfl
theorem prog_133 : prog 133 = some (.prim pStrSplit) := rfl
theorem prog_134 : prog 134 = some (.code F_addr_alnum) := rfl
theorem prog_135 : prog 135 = some (.code F_internal_stringslite_Cut) := rfl
theorem prog_199 : prog 199 = some (.code F_when_Right) := rfl
theorem prog_209 : prog 209 = some (.code F_posthornref12_Time) := rfl
theorem prog_213 : prog 213 = some (.code F_posthornref07_Plain) := rfl
theorem prog_215 : prog 215 = some (.code F_posthornref04_Parts) := rfl
theorem prog_216 : prog 216 = some (.code F_posthornref07_Right) := rfl
theorem prog_217 : prog 217 = some (.code F_posthornref07_atoms) := rfl
theorem prog_218 : prog 218 = some (.code F_posthornref07_Domain) := rfl
theorem prog_219 : prog 219 = some (.code F_posthornref07_Atom) := rfl
theorem prog_220 : prog 220 = some (.code F_posthornref07_Letter) := rfl
theorem prog_256 : prog 256 = some (.code F_date_Print) := rfl
theorem prog_258 : prog 258 = some (.code F_date_Weekday) := rfl
theorem prog_260 : prog 260 = some (.code F_posthornlaw20_alive) := rfl
theorem prog_262 : prog 262 = some (.code F_date_Parse) := rfl
theorem prog_265 : prog 265 = some (.code F_date_ID) := rfl
theorem prog_266 : prog 266 = some (.code F_posthornref20_ID) := rfl
theorem prog_267 : prog 267 = some (.code F_date_IDs) := rfl
theorem prog_268 : prog 268 = some (.code F_posthornref20_IDs) := rfl
theorem prog_269 : prog 269 = some (.code F_posthornlaw20_DateIds) := rfl
theorem prog_274 : prog 274 = some (.code F_date_isShift) := rfl
theorem prog_275 : prog 275 = some (.code F_when_Civil) := rfl
theorem prog_276 : prog 276 = some (.code F_date_two) := rfl
theorem prog_277 : prog 277 = some (.code F_date_dayName) := rfl
theorem prog_278 : prog 278 = some (.code F_date_monthName) := rfl
theorem prog_284 : prog 284 = some (.code F_date_bare) := rfl
theorem prog_285 : prog 285 = some (.code F_date_words) := rfl
theorem prog_286 : prog 286 = some (.code F_date_weekday) := rfl
theorem prog_287 : prog 287 = some (.code F_date_digits) := rfl
theorem prog_288 : prog 288 = some (.code F_date_name) := rfl
theorem prog_289 : prog 289 = some (.code F_date_year) := rfl
theorem prog_290 : prog 290 = some (.code F_date_clock) := rfl
theorem prog_291 : prog 291 = some (.code F_date_zone) := rfl
theorem prog_292 : prog 292 = some (.code F_when_Days) := rfl
theorem prog_302 : prog 302 = some (.code F_date_isDomain) := rfl
theorem prog_303 : prog 303 = some (.code F_date_five) := rfl
theorem prog_304 : prog 304 = some (.code F_posthornref20_signs) := rfl
theorem prog_305 : prog 305 = some (.code F_strings_CutPrefix) := rfl
theorem prog_306 : prog 306 = some (.code F_when_before) := rfl
theorem prog_307 : prog 307 = some (.code F_when_month) := rfl
theorem prog_310 : prog 310 = some (.code F_date_words_c1) := rfl
theorem prog_311 : prog 311 = some (.code F_date_lower) := rfl
theorem prog_314 : prog 314 = some (.code F_internal_stringslite_CutPrefix) := rfl
theorem prog_315 : prog 315 = some (.code F_when_leap) := rfl
end Go.Ab

/-
  Slices that grow: what a function has made itself.
-/
namespace Go.Ab
set_option linter.unusedVariables false
set_option linter.unusedSimpArgs false

/-- A state that has grown: its boxes and loops are these, its first tokens those. -/
structure GrewAt (B : List (List PV)) (T : List Bool) (L : List LoopS) (lo : Nat) (s : St) : Prop where
  bx : s.boxes = B
  lp : s.loops = L
  lw : s.low = lo
  tk : s.toks.take T.length = T
/-- A state of a function that was called in st and has laid no box. -/
abbrev Grew (st s : St) : Prop := GrewAt st.boxes st.toks st.loops st.boxes.length s

variable {B : List (List PV)} {T : List Bool} {L : List LoopS} {lo : Nat}
theorem GrewAt.len {s : St} (h : GrewAt B T L lo s) : T.length ≤ s.toks.length := by
  have := congrArg List.length h.tk
  simp at this; omega
theorem Grew.start {st : St} : Grew st { boxes := st.boxes, toks := st.toks, loops := st.loops, low := st.boxes.length } := ⟨rfl, rfl, rfl, by simp⟩
theorem GrewAt.start {ts : List Bool} : GrewAt B T L lo ⟨B, T ++ ts, L, lo⟩ := ⟨rfl, rfl, rfl, by simp⟩
/-- One more token. -/
def St.tok1 (s : St) : St := { s with toks := s.toks ++ [true] }
theorem GrewAt.tok1 {s : St} (h : GrewAt B T L lo s) : GrewAt B T L lo s.tok1 := ⟨h.bx, h.lp, h.lw, by
  show (s.toks ++ [true]).take T.length = T
  rw [List.take_append_of_le_length h.len]; exact h.tk⟩

/-- A slice that a function has made itself, or none. -/
def Own (st s : St) (esz : Nat) (v : PV) (xs : List PV) : Prop := (v = .nils ∧ xs = []) ∨ ∃ i, v = .sl esz (.own i) xs ∧ st.toks.length ≤ i ∧ s.toks[i]? = some true
def OwnB (st s : St) (v : PV) (l : List UInt8) : Prop := (v = .nils ∧ l = []) ∨ ∃ i, v = .bys (.own i) l ∧ st.toks.length ≤ i ∧ s.toks[i]? = some true

theorem Own.tok1 {st s : St} {esz : Nat} {v : PV} {xs : List PV} (h : Own st s esz v xs) : Own st s.tok1 esz v xs := by
  rcases h with h | ⟨i, h1, h2, h3⟩
  · exact .inl h
  · exact .inr ⟨i, h1, h2, by show (s.toks ++ [true])[i]? = some true; rw [List.getElem?_append_left (List.getElem?_eq_some_iff.1 h3).1]; exact h3⟩
theorem OwnB.tok1 {st s : St} {v : PV} {l : List UInt8} (h : OwnB st s v l) : OwnB st s.tok1 v l := by
  rcases h with h | ⟨i, h1, h2, h3⟩
  · exact .inl h
  · exact .inr ⟨i, h1, h2, by show (s.toks ++ [true])[i]? = some true; rw [List.getElem?_append_left (List.getElem?_eq_some_iff.1 h3).1]; exact h3⟩
theorem OwnB.by {st s : St} {v : PV} {l : List UInt8} (h : OwnB st s v l) : v.by = some l := by
  rcases h with ⟨rfl, rfl⟩ | ⟨i, rfl, _, _⟩ <;> rfl

/-- What append leaves of the tokens. -/
def appS (s : St) (v : PV) : St := match v with
  | .sl _ (.own i) _ => { s with toks := s.toks.set i false ++ [true] }
  | .bys (.own i) _ => { s with toks := s.toks.set i false ++ [true] }
  | _ => s.tok1
theorem appV_own {st s : St} {esz : Nat} {v u : PV} {xs : List PV} {t : Tok} (h : Own st s esz v xs) (hl : xs.length + 1 ≤ room) :
    appV esz s v (.sl esz t [u]) = some (.sl esz (.own s.toks.length) (xs ++ [u]), appS s v) := by
  rcases h with ⟨rfl, rfl⟩ | ⟨i, rfl, h2, h3⟩
  · simp [appV, srcV, freshT, room, appS, St.tok1]
  · simp [appV, srcV, freshT, appTok, appS, h3, hl]
theorem Own.app {st s : St} {esz : Nat} {v : PV} {xs ys : List PV} (hg : GrewAt B st.toks L lo s) (h : Own st s esz v xs) : GrewAt B st.toks L lo (appS s v) ∧ Own st (appS s v) esz (.sl esz (.own s.toks.length) ys) ys := by
  have hlen := hg.len
  rcases h with ⟨rfl, rfl⟩ | ⟨i, rfl, h2, h3⟩
  · refine ⟨hg.tok1, .inr ⟨_, rfl, hlen, ?_⟩⟩
    simp [appS, St.tok1]
  · refine ⟨⟨hg.bx, hg.lp, hg.lw, ?_⟩, .inr ⟨_, rfl, hlen, ?_⟩⟩
    · show (s.toks.set i false ++ [true]).take st.toks.length = st.toks
      rw [List.take_append_of_le_length (by simpa using hlen), List.take_set_of_le h2]; exact hg.tk
    · show (s.toks.set i false ++ [true])[s.toks.length]? = some true
      rw [List.getElem?_append_right (by simp)]; simp
theorem OwnB.app {st s : St} {v : PV} {l m : List UInt8} (hg : GrewAt B st.toks L lo s) (h : OwnB st s v l) : GrewAt B st.toks L lo (appS s v) ∧ OwnB st (appS s v) (.bys (.own s.toks.length) m) m := by
  have hlen := hg.len
  rcases h with ⟨rfl, rfl⟩ | ⟨i, rfl, h2, h3⟩
  · refine ⟨hg.tok1, .inr ⟨_, rfl, hlen, ?_⟩⟩
    simp [appS, St.tok1]
  · refine ⟨⟨hg.bx, hg.lp, hg.lw, ?_⟩, .inr ⟨_, rfl, hlen, ?_⟩⟩
    · show (s.toks.set i false ++ [true]).take st.toks.length = st.toks
      rw [List.take_append_of_le_length (by simpa using hlen), List.take_set_of_le h2]; exact hg.tk
    · show (s.toks.set i false ++ [true])[s.toks.length]? = some true
      rw [List.getElem?_append_right (by simp)]; simp

/-- Bytes in a box of two's middle. -/
theorem GrewAt.loops {s : St} {L' : List LoopS} (h : GrewAt B T L lo s) : GrewAt B T L' lo { s with loops := L' } := ⟨h.bx, rfl, h.lw, h.tk⟩
theorem OwnB.loops {st s : St} {v : PV} {l : List UInt8} {L' : List LoopS} (h : OwnB st s v l) : OwnB st { s with loops := L' } v l := h
/-- A slice of values, new to the caller. -/
def newSl (st : St) (esz : Nat) (xs : List PV) : PV := if xs = [] then .nils else .sl esz (.own st.toks.length) xs
def newS (st : St) (b : Bool) : St := if b then st else st.tok1
theorem freshT_eq {s : St} : freshT s = (.own s.toks.length, s.tok1) := rfl
end Go.Ab

/-
  Ranges over functions; memory that grows.
-/
namespace Go.Ab
set_option linter.unusedVariables false
set_option linter.unusedSimpArgs false
variable {A : AP} {st : St} {e : Env}

/-! ### Lists that have grown -/
/-! ### Slices of values -/
def PV.vs (esz : Nat) : PV → Option (List PV)
  | .nils => some []
  | .sl e _ xs => if e = esz then some xs else none
  | _ => none
theorem vs_cases {esz : Nat} {x : PV} {xs : List PV} (h : x.vs esz = some xs) : (x = .nils ∧ xs = []) ∨ ∃ t, x = .sl esz t xs := by
  cases x <;> simp [PV.vs] at h
  · exact .inl ⟨rfl, h⟩
  · obtain ⟨rfl, rfl⟩ := h; exact .inr ⟨_, rfl⟩
theorem len_vs {esz : Nat} {x : PV} {xs : List PV} (h : x.vs esz = some xs) : lenPV false x = some (.int .i64 (xs.length : Int)) := by
  rcases vs_cases h with ⟨rfl, rfl⟩ | ⟨t, rfl⟩ <;> rfl
theorem iaddr_vs {esz : Nat} {x : PV} {xs : List PV} {k : IntKind} {c : Int} (h : x.vs esz = some xs) (h1 : 0 ≤ c) (h2 : c.toNat < xs.length) : iaddrPV esz x (.int k c) = some (.cp (xs.getD c.toNat .undef).cells) := by
  rcases vs_cases h with ⟨rfl, rfl⟩ | ⟨t, rfl⟩
  · simp at h2
  · simp [iaddrPV, intOf, h1, show c < xs.length by omega]
theorem newSl_vs {esz : Nat} {xs : List PV} : (newSl st esz xs).vs esz = some xs := by
  unfold newSl; split
  · rename_i h; rw [h]; rfl
  · simp [PV.vs]
end Go.Ab

/-
  Cuts in code; slices that live on in boxes.
-/
namespace Go.Ab
set_option linter.unusedVariables false
set_option linter.unusedSimpArgs false
variable {A : AP} {st : St} {e : Env}

/-- A law's call: its one result is true. -/
theorem law_of_W {f k : Nat} {args : List PV} {fn : ACFn} (hA : A f = some (.code fn)) (hr : fn.results = [.tmp k])
    (h : W A fn.body (env0 args) { st with low := st.boxes.length } (fun x e _ => (x = .normal ∨ x = .ret) ∧ e k = .bool true)) : ∃ s', call A (.fn f []) args st = some (.bool true, s') := by
  obtain ⟨⟨x, e1, st1⟩, h1, h2, h3⟩ := h
  simp only at h2 h3
  have hl : ∃ s', leave st st1 (.bool true) = (.bool true, s') := by
    unfold leave
    simp only [PV.inB, if_true]
    split
    · exact ⟨_, rfl⟩
    · exact ⟨_, rfl⟩
  obtain ⟨s', hl⟩ := hl
  refine ⟨s', ?_⟩
  have hres : resOf e1 st1 fn.results = some (.bool true) := by rw [hr]; simp [resOf, rvAll, rv1, h3, notTup, packRes]
  refine call_of_W hA ⟨(x, e1, st1), by rw [List.append_nil]; exact h1, h2, .bool true, hres, hl⟩

/-- A slice whose room is its own, or none. -/
def Live (s : St) (v : PV) (l : List UInt8) : Prop := (v = .nils ∧ l = []) ∨ ∃ i, v = .bys (.own i) l ∧ s.toks[i]? = some true
theorem Live.by {s : St} {v : PV} {l : List UInt8} (h : Live s v l) : v.by = some l := by
  rcases h with ⟨rfl, rfl⟩ | ⟨i, rfl, _⟩ <;> rfl
theorem Live.lt {s : St} {v : PV} {l : List UInt8} (h : Live s v l) {i : Nat} (hi : tokOf v = some i) : i < s.toks.length ∧ s.toks[i]? = some true := by
  rcases h with ⟨rfl, rfl⟩ | ⟨j, rfl, hj⟩
  · cases hi
  · simp only [tokOf, Option.some.injEq] at hi
    subst hi
    exact ⟨(List.getElem?_eq_some_iff.1 hj).1, hj⟩
theorem Live.tokLt {s : St} {v : PV} {l : List UInt8} (h : Live s v l) : v.tokLt s.toks.length = true := by
  rcases h with ⟨rfl, rfl⟩ | ⟨j, rfl, hj⟩
  · rfl
  · simp [PV.tokLt, Tok.lt, (List.getElem?_eq_some_iff.1 hj).1]
theorem Live.move {s s' : St} {v : PV} {l : List UInt8} (h : Live s v l) (ht : ∀ i, tokOf v = some i → s'.toks[i]? = s.toks[i]?) : Live s' v l := by
  rcases h with h | ⟨j, rfl, hj⟩
  · exact .inl h
  · exact .inr ⟨j, rfl, by rw [ht j rfl]; exact hj⟩
theorem Live.tok1 {s : St} {v : PV} {l : List UInt8} (h : Live s v l) : Live s.tok1 v l := h.move fun i hi => by
  show (s.toks ++ [true])[i]? = _
  rw [List.getElem?_append_left (h.lt hi).1]

theorem app8_live {s : St} {v y : PV} {l m : List UInt8} (h : Live s v l) (hy : src8 s y = some m) (hl : l.length + m.length ≤ room) :
    ∃ v' s', app8 s v y = some (v', s') ∧ s'.boxes = s.boxes ∧ s'.loops = s.loops ∧ s'.low = s.low ∧ Live s' v' (l ++ m) ∧ s.toks.length ≤ s'.toks.length ∧
      (∀ i, i < s.toks.length → tokOf v ≠ some i → s'.toks[i]? = s.toks[i]?) ∧ (∀ i, tokOf v' = some i → (tokOf v = some i ∧ s' = s) ∨ s.toks.length ≤ i) ∧ (m ≠ [] → tokOf v' = some s.toks.length) := by
  by_cases hm : m = []
  · subst hm
    refine ⟨v, s, ?_, rfl, rfl, rfl, by simpa using h, Nat.le_refl _, fun _ _ _ => rfl, fun i hi => .inl ⟨hi, rfl⟩, fun h => absurd rfl h⟩
    rcases h with ⟨rfl, rfl⟩ | ⟨j, rfl, hj⟩ <;> simp [app8, hy]
  · rcases h with ⟨rfl, rfl⟩ | ⟨j, rfl, hj⟩
    · simp at hl
      refine ⟨.bys (.own s.toks.length) m, s.tok1, by simp [app8, hy, hm, freshT, hl, St.tok1], rfl, rfl, rfl, .inr ⟨_, rfl, by simp [St.tok1]⟩, by simp [St.tok1], fun i hi _ => ?_, fun i hi => .inr ?_, fun _ => rfl⟩
      · show (s.toks ++ [true])[i]? = _
        rw [List.getElem?_append_left hi]
      · simp only [tokOf, Option.some.injEq] at hi; omega
    · refine ⟨.bys (.own s.toks.length) (l ++ m), ⟨s.boxes, s.toks.set j false ++ [true], s.loops, s.low⟩, by simp [app8, hy, hm, freshT, appTok, hj, hl], rfl, rfl, rfl, .inr ⟨_, rfl, by simp [List.getElem?_append_right]⟩, by simp, fun i hi hne => ?_, fun i hi => .inr ?_, fun _ => rfl⟩
      · show (s.toks.set j false ++ [true])[i]? = _
        rw [List.getElem?_append_left (by simpa using hi), List.getElem?_set_ne (fun h => hne (by rw [h]; rfl))]
      · simp only [tokOf, Option.some.injEq] at hi; omega
end Go.Ab
namespace Go.Ab
variable {A : AP} {st : St} {e : Env}
end Go.Ab

/-
  strings.Builder: what is written, and its text.
-/
namespace Go.Ab
set_option linter.unusedVariables false
set_option linter.unusedSimpArgs false
variable {P : St → Prop} {st : St} {e : Env} {s s' : St} {b : Nat} {x : PV} {l : List UInt8}

/-- A Builder in a box. -/
structure Bu (s : St) (b : Nat) (x : PV) (l : List UInt8) : Prop where
  bx : s.boxes[b]? = some [.bslot, x] ∨ s.boxes[b]? = some [.ptr b 0, x]
  lv : Live s x l

/-- What a write leaves. -/
structure BuStep (s s' : St) (b : Nat) (x x' : PV) (l' : List UInt8) : Prop where
  bx : s'.boxes = s.boxes.set b [.ptr b 0, x']
  lv : Live s' x' l'
  lp : s'.loops = s.loops
  tl : s.toks.length ≤ s'.toks.length
  tk : ∀ i, i < s.toks.length → tokOf x ≠ some i → s'.toks[i]? = s.toks[i]?
  tn : ∀ i, tokOf x' = some i → tokOf x = some i ∨ s.toks.length ≤ i
  lw : min s.low b ≤ s'.low

theorem Bu.lt (h : Bu s b x l) : b < s.boxes.length := by
  rcases h.bx with h | h <;> exact (List.getElem?_eq_some_iff.1 h).1
/-! ### A function's state that keeps what its caller has -/
structure Kept (st s : St) : Prop where
  bx : s.boxes.take st.boxes.length = st.boxes
  lp : s.loops = st.loops
  lw : st.boxes.length ≤ s.low
  tk : s.toks.take st.toks.length = st.toks

theorem Kept.start : Kept st { boxes := st.boxes, toks := st.toks, loops := st.loops, low := st.boxes.length } := ⟨by simp, rfl, Nat.le_refl _, by simp⟩
theorem Kept.bl (h : Kept st s) : st.boxes.length ≤ s.boxes.length := by
  have := congrArg List.length h.bx
  simp at this; omega
theorem Kept.tl (h : Kept st s) : st.toks.length ≤ s.toks.length := by
  have := congrArg List.length h.tk
  simp at this; omega
theorem Kept.get (h : Kept st s) {i : Nat} (hi : i < st.toks.length) : s.toks[i]? = st.toks[i]? := by
  have := congrArg (fun z => z[i]?) h.tk
  simpa [List.getElem?_take, hi] using this
theorem Kept.of {s' : St} (h : Kept st s) (hb : s'.boxes.take st.boxes.length = s.boxes.take st.boxes.length) (hl : s'.loops = s.loops) (hw : st.boxes.length ≤ s'.low) (ht : ∀ i, i < st.toks.length → s'.toks[i]? = s.toks[i]?) (hn : st.toks.length ≤ s'.toks.length) : Kept st s' :=
  ⟨hb.trans h.bx, hl.trans h.lp, hw, by
    apply List.ext_getElem?
    intro i
    rw [List.getElem?_take]
    split
    · rename_i hi
      rw [ht i hi, h.get hi]
    · rename_i hi
      rw [List.getElem?_eq_none (by omega)]⟩
theorem Kept.tok1 (h : Kept st s) : Kept st s.tok1 := h.of rfl rfl h.lw (fun i hi => by
  show (s.toks ++ [true])[i]? = _
  rw [List.getElem?_append_left (by have := h.tl; omega)]) (by have := h.tl; simp [St.tok1]; omega)
theorem Kept.leave (h : Kept st s) {v : PV} (h1 : v.inB st.boxes.length = true) (h2 : ∀ n toks, keepRes n toks v = (v, [])) : leave st s v = (v, st) := by
  have e1 := h.bx; have e2 := h.lp; have e3 := h.tk
  simp [Ab.leave, h1, h.lw, h2, e1, e2, e3]
theorem Kept.alloc {z : List PV} (h : Kept st s) : Kept st { s with boxes := s.boxes ++ [z] } := h.of (by
  have := h.bl
  rw [List.take_append_of_le_length this]) rfl h.lw (fun _ _ => rfl) h.tl
/-- A Builder of one's own is written. -/
theorem Kept.step {x' : PV} {l' : List UInt8} (h : Kept st s) (hs : BuStep s s' b x x' l') (hb : st.boxes.length ≤ b) (hm : ∀ i, tokOf x = some i → st.toks.length ≤ i) : Kept st s' ∧ ∀ i, tokOf x' = some i → st.toks.length ≤ i := by
  have htl := h.tl
  refine ⟨h.of ?_ hs.lp (by have := hs.lw; have := h.lw; omega) (fun i hi => hs.tk i (by omega) fun hh => by have := hm i hh; omega) (by have := hs.tl; omega), fun i hi => ?_⟩
  · rw [hs.bx, List.take_set_of_le hb]
  · rcases hs.tn i hi with h1 | h1
    · exact hm i h1
    · omega

theorem Kept.string (h : Kept st s) (hs : ∃ s', P s' ∧ s'.boxes = s.boxes ∧ s'.loops = s.loops ∧ s'.low = s.low ∧ s'.toks.length = s.toks.length ∧ ∀ i, tokOf x ≠ some i → s'.toks[i]? = s.toks[i]?) (hm : ∀ i, tokOf x = some i → st.toks.length ≤ i) : ∃ s', P s' ∧ Kept st s' := by
  obtain ⟨s', h0, h1, h2, h3, h4, h5⟩ := hs
  exact ⟨s', h0, h.of (by rw [h1]) h2 (by rw [h3]; exact h.lw) (fun i hi => h5 i fun hh => by have := hm i hh; omega) (by rw [h4]; exact h.tl)⟩

/-- A slice of one's own. -/
def Mine (st s : St) (v : PV) (l : List UInt8) : Prop := Live s v l ∧ ∀ t, tokOf v = some t → st.toks.length ≤ t
theorem Mine.nil : Mine st s .nils [] := ⟨.inl ⟨rfl, rfl⟩, fun t h => (by cases h)⟩
theorem Mine.by {v : PV} (h : Mine st s v l) : v.by = some l := h.1.by
theorem Mine.tok1 {v : PV} (h : Mine st s v l) : Mine st s.tok1 v l := ⟨h.1.tok1, h.2⟩
theorem Kept.app8 {v y : PV} {m : List UInt8} (hk : Kept st s) (h : Mine st s v l) (hy : src8 s y = some m) (hl : l.length + m.length ≤ room) :
    ∃ v' s', Ab.app8 s v y = some (v', s') ∧ Kept st s' ∧ Mine st s' v' (l ++ m) := by
  obtain ⟨v', s', a1, a2, a3, a4, a5, a6, a7, a8, a9⟩ := app8_live h.1 hy hl
  have htl := hk.tl
  refine ⟨v', s', a1, hk.of (by rw [a2]) a3 (by rw [a4]; exact hk.lw) (fun i hi => a7 i (by omega) fun hh => by have := h.2 i hh; omega) (by omega), a5, fun t ht => ?_⟩
  rcases a8 t ht with ⟨h1, _⟩ | h1
  · exact h.2 t h1
  · omega
/-- One byte more. -/
theorem Kept.push {v : PV} {c : UInt8} (hk : Kept st s) (h : Mine st s v l) (hl : l.length + 1 ≤ room) :
    ∃ v' s', Ab.app8 s.tok1 v (.bys (.own s.toks.length) [c]) = some (v', s') ∧ Kept st s' ∧ Mine st s' v' (l ++ [c]) :=
  hk.tok1.app8 h.tok1 rfl (by simpa using hl)
theorem lit8_1 {c : UInt8} : lit8Fill (List.replicate 1 0) [(0, .b8 c)] = some [c] := rfl
/-- What a call hands back that is no slice, no place. -/
def Flat (v : PV) : Prop := (∀ n, v.inB n = true) ∧ (∀ n toks, keepRes n toks v = (v, []))
theorem Kept.leave' (h : Kept st s) {v : PV} (hv : Flat v) : Ab.leave st s v = (v, st) := h.leave (hv.1 _) hv.2
end Go.Ab
