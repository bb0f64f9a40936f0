/-
  The abstract code of functions, printed by program (abgen.py, abput2.py).
-/
import Derived.Test.YtknhnghgmhhjhaaDoorA1
import Derived.Test.YtknhnghgmhhjhaaDoorA3
import Derived.Test.YtknhnghgmhhjhaaDoorA2
import Derived.KernelRfl
namespace Go.Ab

/-- posthorn/addr.Right -/
def F_addr_Right : ACFn := { nt := 28,results := [.tmp 2],body := (.seq (.region [⟨some 1,.box (.tmp 0),none⟩,⟨some 2,.mov (.const (.bool false)),none⟩]) (.seq (.region [⟨some 3,.faddr 1 (.tmp 1),none⟩,⟨some 4,.load false 1 (.tmp 3),none⟩,
 ⟨some 5,.len true (.tmp 4),none⟩,⟨some 6,.bin .leq .no (.tmp 5) (.const (.int .i64 64)),none⟩,⟨some 7,.mov (.tmp 6),none⟩,⟨some 8,.faddr 1 (.tmp 1),some (7,true)⟩,⟨some 9,.load false 1 (.tmp 8),some (7,true)⟩,
 ⟨some 10,.call (.fn 124) [(.tmp 9),(.const (.str [46])),(.fn 125)],some (7,true)⟩,⟨some 11,.pick (.tmp 7) (.tmp 10) (.const (.bool false)),none⟩,⟨some 12,.mov (.tmp 11),none⟩,⟨some 13,.faddr 2 (.tmp 1),some (12,true)⟩,
 ⟨some 14,.load false 1 (.tmp 13),some (12,true)⟩,⟨some 15,.len true (.tmp 14),some (12,true)⟩,⟨some 16,.bin .leq .no (.tmp 15) (.const (.int .i64 253)),some (12,true)⟩,⟨some 17,.pick (.tmp 12) (.tmp 16) (.const (.bool false)),none⟩,
 ⟨some 18,.mov (.tmp 17),none⟩,⟨some 19,.faddr 2 (.tmp 1),some (18,true)⟩,⟨some 20,.load false 1 (.tmp 19),some (18,true)⟩,⟨some 21,.call (.fn 124) [(.tmp 20),(.const (.str [46])),(.fn 126)],some (18,true)⟩,
 ⟨some 22,.pick (.tmp 18) (.tmp 21) (.const (.bool false)),none⟩,⟨some 23,.mov (.tmp 22),none⟩,⟨some 24,.faddr 0 (.tmp 1),some (23,true)⟩,⟨some 25,.load false 1 (.tmp 24),some (23,true)⟩,⟨some 26,.call (.fn 127) [(.tmp 25)],some (23,true)⟩,
 ⟨some 27,.pick (.tmp 23) (.tmp 26) (.const (.bool false)),none⟩,⟨some 2,.mov (.tmp 27),none⟩]) (.ret))) }

/-- posthorn/addr.Plain -/
def F_addr_Plain : ACFn := { nt := 22,results := [.cell 2 true 3,.tmp 3],body := (.seq (.region [⟨some 2,.alloc [.str [],.str [],.str []],none⟩,⟨some 3,.mov (.const (.int .i64 0)),none⟩]) (.seq (.region [⟨some 9,.mov (.tmp 0),none⟩,
 ⟨some 10,.call (.fn 128) [(.tmp 9),(.const (.str [64]))],none⟩,⟨some 8,.mov (.tmp 10),none⟩,⟨some 11,.ext 0 (.tmp 8),none⟩,⟨some 12,.ext 1 (.tmp 8),none⟩,⟨some 13,.ext 2 (.tmp 8),none⟩,⟨some 4,.mov (.tmp 11),none⟩,
 ⟨some 5,.mov (.tmp 12),none⟩,⟨some 6,.mov (.tmp 13),none⟩]) (.seq (.region [⟨some 14,.mov (.tmp 4),none⟩,⟨some 15,.mov (.tmp 5),none⟩,⟨some 16,.build [.str [],.str [],.str []] [(1,1,(.tmp 14)),(2,1,(.tmp 15))],none⟩,
 ⟨some 7,.alloc [.str [],.str [],.str []],none⟩,⟨none,.store 3 (.tmp 7) (.tmp 16),none⟩]) (.seq (.seq (.region [⟨some 17,.load true 3 (.tmp 7),none⟩,⟨some 18,.call (.fn 111) [(.tmp 17)],none⟩,⟨some 19,.un .not (.tmp 18),none⟩]) (.cond (.tmp 19) (.seq (.region [⟨some 20,.build [.str [],.str [],.str []] [],none⟩,
 ⟨none,.store 3 (.tmp 2) (.tmp 20),none⟩,⟨some 3,.mov (.const (.int .i64 60)),none⟩]) (.ret)) (.skip))) (.seq (.region [⟨some 21,.load true 3 (.tmp 7),none⟩,⟨none,.store 3 (.tmp 2) (.tmp 21),none⟩,⟨some 3,.mov (.const (.int .i64 0)),none⟩]) (.ret)))))) }

/-- posthorn/addr.parts -/
def F_addr_parts : ACFn := { nt := 22,results := [.tmp 6],body := (.seq (.region [⟨some 6,.mov (.const (.bool false)),none⟩]) (.seq (.seq (.region [⟨some 9,.mov (.tmp 0),none⟩,⟨some 10,.mov (.tmp 1),none⟩,⟨some 11,.call (.fn 133) [(.tmp 9),(.tmp 10)],none⟩,
 ⟨some 12,.len false (.tmp 11),none⟩,⟨some 13,.mov (.const (.int .i64 0)),none⟩]) (.block 0 (.loop (.seq (.region [⟨some 14,.bin .lss .no (.tmp 13) (.tmp 12),none⟩]) (.seq (.cond (.tmp 14) (.skip) (.exit 0)) (.seq (.block 1 (.seq (.region [⟨some 15,.iaddr 1 (.tmp 11) (.tmp 13),none⟩,
 ⟨some 16,.load false 1 (.tmp 15),none⟩,⟨some 8,.mov (.tmp 16),none⟩]) (.seq (.region [⟨some 17,.mov (.tmp 2),none⟩,⟨some 18,.mov (.tmp 8),none⟩,⟨some 19,.call (.tmp 17) [(.tmp 18)],none⟩,⟨some 20,.un .not (.tmp 19),none⟩]) (.cond (.tmp 20) (.seq (.region [⟨some 6,.mov (.const (.bool false)),none⟩]) (.ret)) (.skip))))) (.region [⟨some 21,.bin .add .no (.tmp 13) (.const (.int .i64 1)),none⟩,
 ⟨some 13,.mov (.tmp 21),none⟩]))))))) (.seq (.region [⟨some 6,.mov (.const (.bool true)),none⟩]) (.ret)))) }

/-- posthorn/addr.isAtom -/
def F_addr_isAtom : ACFn := { nt := 24,results := [.tmp 2],body := (.seq (.region [⟨some 2,.mov (.const (.bool false)),none⟩]) (.seq (.seq (.region [⟨some 4,.mov (.tmp 0),none⟩,⟨some 5,.len true (.tmp 4),none⟩,⟨some 6,.mov (.const (.int .i64 0)),none⟩]) (.block 0 (.loop (.seq (.region [⟨some 7,.bin .lss .no (.tmp 6) (.tmp 5),none⟩]) (.seq (.cond (.tmp 7) (.skip) (.exit 0)) (.seq (.block 1 (.seq (.region [⟨some 8,.mov (.tmp 6),none⟩,
 ⟨some 3,.mov (.tmp 8),none⟩]) (.seq (.region [⟨some 9,.mov (.tmp 0),none⟩,⟨some 10,.mov (.tmp 3),none⟩,⟨some 11,.idxS (.tmp 9) (.tmp 10),none⟩,⟨some 12,.call (.fn 134) [(.tmp 11)],none⟩,⟨some 13,.un .not (.tmp 12),none⟩,
 ⟨some 14,.mov (.tmp 13),none⟩,⟨some 15,.mov (.tmp 0),some (14,true)⟩,⟨some 16,.mov (.tmp 3),some (14,true)⟩,⟨some 17,.idxS (.tmp 15) (.tmp 16),some (14,true)⟩,⟨some 18,.call (.fn 78) [(.const (.str [33,35,36,37,38,39,42,43,45,47,61,63,94,95,123,124,125,126,96])),(.tmp 17)],some (14,true)⟩,
 ⟨some 19,.bin .lss .no (.tmp 18) (.const (.int .i64 0)),some (14,true)⟩,⟨some 20,.pick (.tmp 14) (.tmp 19) (.const (.bool false)),none⟩]) (.cond (.tmp 20) (.seq (.region [⟨some 2,.mov (.const (.bool false)),none⟩]) (.ret)) (.skip))))) (.region [⟨some 21,.bin .add .no (.tmp 6) (.const (.int .i64 1)),none⟩,
 ⟨some 6,.mov (.tmp 21),none⟩]))))))) (.seq (.region [⟨some 22,.mov (.tmp 0),none⟩,⟨some 23,.bin .neq .no (.tmp 22) (.const (.str [])),none⟩,⟨some 2,.mov (.tmp 23),none⟩]) (.ret)))) }

/-- posthorn/addr.isLabel -/
def F_addr_isLabel : ACFn := { nt := 41,results := [.tmp 2],body := (.seq (.region [⟨some 2,.mov (.const (.bool false)),none⟩]) (.seq (.seq (.region [⟨some 4,.mov (.tmp 0),none⟩,⟨some 5,.len true (.tmp 4),none⟩,⟨some 6,.mov (.const (.int .i64 0)),none⟩]) (.block 0 (.loop (.seq (.region [⟨some 7,.bin .lss .no (.tmp 6) (.tmp 5),none⟩]) (.seq (.cond (.tmp 7) (.skip) (.exit 0)) (.seq (.block 1 (.seq (.region [⟨some 8,.mov (.tmp 6),none⟩,
 ⟨some 3,.mov (.tmp 8),none⟩]) (.seq (.region [⟨some 9,.mov (.tmp 0),none⟩,⟨some 10,.mov (.tmp 3),none⟩,⟨some 11,.idxS (.tmp 9) (.tmp 10),none⟩,⟨some 12,.call (.fn 134) [(.tmp 11)],none⟩,⟨some 13,.un .not (.tmp 12),none⟩,
 ⟨some 14,.mov (.tmp 13),none⟩,⟨some 15,.mov (.tmp 0),some (14,true)⟩,⟨some 16,.mov (.tmp 3),some (14,true)⟩,⟨some 17,.idxS (.tmp 15) (.tmp 16),some (14,true)⟩,⟨some 18,.bin .neq .no (.tmp 17) (.const (.b8 45)),some (14,true)⟩,
 ⟨some 19,.pick (.tmp 14) (.tmp 18) (.const (.bool false)),none⟩]) (.cond (.tmp 19) (.seq (.region [⟨some 2,.mov (.const (.bool false)),none⟩]) (.ret)) (.skip))))) (.region [⟨some 20,.bin .add .no (.tmp 6) (.const (.int .i64 1)),none⟩,
 ⟨some 6,.mov (.tmp 20),none⟩]))))))) (.seq (.region [⟨some 21,.mov (.tmp 0),none⟩,⟨some 22,.bin .neq .no (.tmp 21) (.const (.str [])),none⟩,⟨some 23,.mov (.tmp 22),none⟩,⟨some 24,.mov (.tmp 0),some (23,true)⟩,
 ⟨some 25,.len true (.tmp 24),some (23,true)⟩,⟨some 26,.bin .leq .no (.tmp 25) (.const (.int .i64 63)),some (23,true)⟩,⟨some 27,.pick (.tmp 23) (.tmp 26) (.const (.bool false)),none⟩,⟨some 28,.mov (.tmp 27),none⟩,
 ⟨some 29,.mov (.tmp 0),some (28,true)⟩,⟨some 30,.idxS (.tmp 29) (.const (.int .i64 0)),some (28,true)⟩,⟨some 31,.bin .neq .no (.tmp 30) (.const (.b8 45)),some (28,true)⟩,⟨some 32,.pick (.tmp 28) (.tmp 31) (.const (.bool false)),none⟩,
 ⟨some 33,.mov (.tmp 32),none⟩,⟨some 34,.mov (.tmp 0),some (33,true)⟩,⟨some 35,.mov (.tmp 0),some (33,true)⟩,⟨some 36,.len true (.tmp 35),some (33,true)⟩,⟨some 37,.bin .sub .no (.tmp 36) (.const (.int .i64 1)),some (33,true)⟩,
 ⟨some 38,.idxS (.tmp 34) (.tmp 37),some (33,true)⟩,⟨some 39,.bin .neq .no (.tmp 38) (.const (.b8 45)),some (33,true)⟩,⟨some 40,.pick (.tmp 33) (.tmp 39) (.const (.bool false)),none⟩,⟨some 2,.mov (.tmp 40),none⟩]) (.ret)))) }

/-- posthorn/addr.isName -/
def F_addr_isName : ACFn := { nt := 23,results := [.tmp 2],body := (.seq (.region [⟨some 2,.mov (.const (.bool false)),none⟩]) (.seq (.seq (.region [⟨some 4,.mov (.tmp 0),none⟩,⟨some 5,.len true (.tmp 4),none⟩,⟨some 6,.mov (.const (.int .i64 0)),none⟩]) (.block 0 (.loop (.seq (.region [⟨some 7,.bin .lss .no (.tmp 6) (.tmp 5),none⟩]) (.seq (.cond (.tmp 7) (.skip) (.exit 0)) (.seq (.block 1 (.seq (.region [⟨some 8,.mov (.tmp 6),none⟩,
 ⟨some 3,.mov (.tmp 8),none⟩]) (.seq (.region [⟨some 9,.mov (.tmp 0),none⟩,⟨some 10,.mov (.tmp 3),none⟩,⟨some 11,.idxS (.tmp 9) (.tmp 10),none⟩,⟨some 12,.bin .lss .no (.tmp 11) (.const (.b8 32)),none⟩,⟨some 13,.mov (.tmp 12),none⟩,
 ⟨some 14,.mov (.tmp 0),some (13,false)⟩,⟨some 15,.mov (.tmp 3),some (13,false)⟩,⟨some 16,.idxS (.tmp 14) (.tmp 15),some (13,false)⟩,⟨some 17,.bin .gtr .no (.tmp 16) (.const (.b8 126)),some (13,false)⟩,
 ⟨some 18,.pick (.tmp 13) (.const (.bool true)) (.tmp 17),none⟩]) (.cond (.tmp 18) (.seq (.region [⟨some 2,.mov (.const (.bool false)),none⟩]) (.ret)) (.skip))))) (.region [⟨some 19,.bin .add .no (.tmp 6) (.const (.int .i64 1)),none⟩,
 ⟨some 6,.mov (.tmp 19),none⟩]))))))) (.seq (.region [⟨some 20,.mov (.tmp 0),none⟩,⟨some 21,.len true (.tmp 20),none⟩,⟨some 22,.bin .leq .no (.tmp 21) (.const (.int .i64 128)),none⟩,⟨some 2,.mov (.tmp 22),none⟩]) (.ret)))) }

/-- posthorn/addr.alnum -/
def F_addr_alnum : ACFn := { nt := 24,results := [.tmp 2],body := (.seq (.region [⟨some 2,.mov (.const (.bool false)),none⟩]) (.seq (.block 0 (.seq (.block 3 (.block 2 (.block 1 (.seq (.seq (.seq (.region [⟨some 4,.mov (.tmp 0),none⟩,
 ⟨some 5,.bin .geq .no (.tmp 4) (.const (.b8 97)),none⟩,⟨some 6,.mov (.tmp 5),none⟩,⟨some 7,.mov (.tmp 0),some (6,true)⟩,⟨some 8,.bin .leq .no (.tmp 7) (.const (.b8 122)),some (6,true)⟩,⟨some 9,.pick (.tmp 6) (.tmp 8) (.const (.bool false)),none⟩,
 ⟨some 3,.mov (.tmp 9),none⟩]) (.cond (.tmp 3) (.exit 1) (.skip))) (.seq (.seq (.region [⟨some 11,.mov (.tmp 0),none⟩,⟨some 12,.bin .geq .no (.tmp 11) (.const (.b8 65)),none⟩,⟨some 13,.mov (.tmp 12),none⟩,
 ⟨some 14,.mov (.tmp 0),some (13,true)⟩,⟨some 15,.bin .leq .no (.tmp 14) (.const (.b8 90)),some (13,true)⟩,⟨some 16,.pick (.tmp 13) (.tmp 15) (.const (.bool false)),none⟩,⟨some 10,.mov (.tmp 16),none⟩]) (.cond (.tmp 10) (.exit 2) (.skip))) (.seq (.region [⟨some 18,.mov (.tmp 0),none⟩,
 ⟨some 19,.bin .geq .no (.tmp 18) (.const (.b8 48)),none⟩,⟨some 20,.mov (.tmp 19),none⟩,⟨some 21,.mov (.tmp 0),some (20,true)⟩,⟨some 22,.bin .leq .no (.tmp 21) (.const (.b8 57)),some (20,true)⟩,⟨some 23,.pick (.tmp 20) (.tmp 22) (.const (.bool false)),none⟩,
 ⟨some 17,.mov (.tmp 23),none⟩]) (.cond (.tmp 17) (.exit 3) (.skip))))) (.exit 0))))) (.seq (.seq (.region [⟨some 2,.mov (.const (.bool true)),none⟩]) (.ret)) (.exit 0)))) (.seq (.region [⟨some 2,.mov (.const (.bool false)),none⟩]) (.ret)))) }

/-- posthorn/when.Right -/
def F_when_Right : ACFn := { nt := 9,results := [.tmp 2],body := (.seq (.region [⟨some 2,.mov (.const (.bool false)),none⟩]) (.seq (.region [⟨some 3,.mov (.tmp 0),none⟩,⟨some 4,.bin .geq .no (.tmp 3) (.const (.int .i64 0)),none⟩,
 ⟨some 5,.mov (.tmp 4),none⟩,⟨some 6,.mov (.tmp 0),some (5,true)⟩,⟨some 7,.bin .leq .no (.tmp 6) (.const (.int .i64 253402300799)),some (5,true)⟩,⟨some 8,.pick (.tmp 5) (.tmp 7) (.const (.bool false)),none⟩,
 ⟨some 2,.mov (.tmp 8),none⟩]) (.ret))) }

/-- posthorn/posthornref12.Time -/
def F_posthornref12_Time : ACFn := { nt := 9,results := [.tmp 2],body := (.seq (.region [⟨some 2,.mov (.const (.bool false)),none⟩]) (.seq (.region [⟨some 3,.mov (.tmp 0),none⟩,⟨some 4,.bin .geq .no (.tmp 3) (.const (.int .i64 0)),none⟩,
 ⟨some 5,.mov (.tmp 4),none⟩,⟨some 6,.mov (.tmp 0),some (5,true)⟩,⟨some 7,.bin .lss .no (.tmp 6) (.const (.int .i64 253402300800)),some (5,true)⟩,⟨some 8,.pick (.tmp 5) (.tmp 7) (.const (.bool false)),none⟩,
 ⟨some 2,.mov (.tmp 8),none⟩]) (.ret))) }

/-- posthorn/posthornref07.Atom -/
def F_posthornref07_Atom : ACFn := { nt := 27,results := [.tmp 2],body := (.seq (.region [⟨some 2,.mov (.const (.bool false)),none⟩]) (.seq (.seq (.region [⟨some 3,.mov (.const (.int .i64 0)),none⟩]) (.block 0 (.loop (.seq (.seq (.region [⟨some 4,.mov (.tmp 3),none⟩,
 ⟨some 5,.mov (.tmp 0),none⟩,⟨some 6,.len true (.tmp 5),none⟩,⟨some 7,.bin .lss .no (.tmp 4) (.tmp 6),none⟩]) (.cond (.tmp 7) (.skip) (.exit 0))) (.seq (.block 1 (.seq (.region [⟨some 10,.mov (.tmp 0),none⟩,
 ⟨some 11,.mov (.tmp 3),none⟩,⟨some 12,.idxS (.tmp 10) (.tmp 11),none⟩,⟨some 13,.call (.fn 220) [(.tmp 12)],none⟩,⟨some 14,.un .not (.tmp 13),none⟩,⟨some 15,.mov (.tmp 14),none⟩,⟨some 16,.mov (.tmp 0),some (15,true)⟩,
 ⟨some 17,.mov (.tmp 3),some (15,true)⟩,⟨some 18,.mov (.tmp 3),some (15,true)⟩,⟨some 19,.bin .add .no (.tmp 18) (.const (.int .i64 1)),some (15,true)⟩,⟨some 20,.slc 0 (.tmp 16) (some (.tmp 17)) (some (.tmp 19)) none,some (15,true)⟩,
 ⟨some 21,.call (.fn 56) [(.const (.str [33,35,36,37,38,39,42,43,45,47,61,63,94,95,123,124,125,126,96])),(.tmp 20)],some (15,true)⟩,⟨some 22,.un .not (.tmp 21),some (15,true)⟩,⟨some 23,.pick (.tmp 15) (.tmp 22) (.const (.bool false)),none⟩]) (.cond (.tmp 23) (.seq (.region [⟨some 2,.mov (.const (.bool false)),none⟩]) (.ret)) (.skip)))) (.region [⟨some 8,.mov (.tmp 3),none⟩,
 ⟨some 9,.bin .add .no (.tmp 8) (.const (.int .i64 1)),none⟩,⟨some 3,.mov (.tmp 9),none⟩])))))) (.seq (.region [⟨some 24,.mov (.tmp 0),none⟩,⟨some 25,.len true (.tmp 24),none⟩,⟨some 26,.bin .gtr .no (.tmp 25) (.const (.int .i64 0)),none⟩,
 ⟨some 2,.mov (.tmp 26),none⟩]) (.ret)))) }

/-- posthorn/posthornref07.Letter -/
def F_posthornref07_Letter : ACFn := { nt := 25,results := [.tmp 2],body := (.seq (.region [⟨some 2,.mov (.const (.bool false)),none⟩]) (.seq (.region [⟨some 3,.mov (.tmp 0),none⟩,⟨some 4,.bin .geq .no (.tmp 3) (.const (.b8 48)),none⟩,⟨some 5,.mov (.tmp 4),none⟩,
 ⟨some 6,.mov (.tmp 0),some (5,true)⟩,⟨some 7,.bin .leq .no (.tmp 6) (.const (.b8 57)),some (5,true)⟩,⟨some 8,.pick (.tmp 5) (.tmp 7) (.const (.bool false)),none⟩,⟨some 9,.mov (.tmp 8),none⟩,⟨some 10,.mov (.tmp 0),some (9,false)⟩,
 ⟨some 11,.bin .geq .no (.tmp 10) (.const (.b8 65)),some (9,false)⟩,⟨some 12,.mov (.tmp 11),some (9,false)⟩,⟨some 13,.mov (.tmp 0),some (12,true)⟩,⟨some 14,.bin .leq .no (.tmp 13) (.const (.b8 90)),some (12,true)⟩,
 ⟨some 15,.pick (.tmp 12) (.tmp 14) (.const (.bool false)),some (9,false)⟩,⟨some 16,.pick (.tmp 9) (.const (.bool true)) (.tmp 15),none⟩,⟨some 17,.mov (.tmp 16),none⟩,⟨some 18,.mov (.tmp 0),some (17,false)⟩,
 ⟨some 19,.bin .geq .no (.tmp 18) (.const (.b8 97)),some (17,false)⟩,⟨some 20,.mov (.tmp 19),some (17,false)⟩,⟨some 21,.mov (.tmp 0),some (20,true)⟩,⟨some 22,.bin .leq .no (.tmp 21) (.const (.b8 122)),some (20,true)⟩,
 ⟨some 23,.pick (.tmp 20) (.tmp 22) (.const (.bool false)),some (17,false)⟩,⟨some 24,.pick (.tmp 17) (.const (.bool true)) (.tmp 23),none⟩,⟨some 2,.mov (.tmp 24),none⟩]) (.ret))) }

/-- posthorn/date.Print -/
def F_date_Print : ACFn := { nt := 101,results := [.tmp 4,.tmp 5],body := (.seq (.region [⟨some 4,.mov (.const (.str [])),none⟩,⟨some 5,.mov (.const (.int .i64 0)),none⟩]) (.seq (.seq (.region [⟨some 16,.mov (.tmp 0),none⟩,⟨some 17,.call (.fn 199) [(.tmp 16)],none⟩,
 ⟨some 18,.un .not (.tmp 17),none⟩,⟨some 19,.mov (.tmp 18),none⟩,⟨some 20,.mov (.tmp 1),some (19,false)⟩,⟨some 21,.call (.fn 274) [(.tmp 20)],some (19,false)⟩,⟨some 22,.un .not (.tmp 21),some (19,false)⟩,
 ⟨some 23,.pick (.tmp 19) (.const (.bool true)) (.tmp 22),none⟩,⟨some 24,.mov (.tmp 23),none⟩,⟨some 25,.mov (.tmp 0),some (24,false)⟩,⟨some 26,.mov (.tmp 1),some (24,false)⟩,⟨some 27,.bin .add .no (.tmp 25) (.tmp 26),some (24,false)⟩,
 ⟨some 28,.call (.fn 199) [(.tmp 27)],some (24,false)⟩,⟨some 29,.un .not (.tmp 28),some (24,false)⟩,⟨some 30,.pick (.tmp 24) (.const (.bool true)) (.tmp 29),none⟩]) (.cond (.tmp 30) (.seq (.region [⟨some 4,.mov (.const (.str [])),none⟩,
 ⟨some 5,.mov (.const (.int .i64 110)),none⟩]) (.ret)) (.skip))) (.seq (.region [⟨some 31,.mov (.tmp 0),none⟩,⟨some 32,.mov (.tmp 1),none⟩,⟨some 33,.bin .add .no (.tmp 31) (.tmp 32),none⟩,⟨some 6,.mov (.tmp 33),none⟩]) (.seq (.region [⟨some 35,.mov (.tmp 6),none⟩,
 ⟨some 36,.bin .quo .no (.tmp 35) (.const (.int .i64 86400)),none⟩,⟨some 37,.call (.fn 275) [(.tmp 36)],none⟩,⟨some 34,.mov (.tmp 37),none⟩,⟨some 38,.ext 0 (.tmp 34),none⟩,⟨some 39,.ext 1 (.tmp 34),none⟩,
 ⟨some 40,.ext 2 (.tmp 34),none⟩,⟨some 41,.ext 3 (.tmp 34),none⟩,⟨some 7,.mov (.tmp 38),none⟩,⟨some 8,.mov (.tmp 39),none⟩,⟨some 9,.mov (.tmp 40),none⟩,⟨some 10,.mov (.tmp 41),none⟩]) (.seq (.region [⟨some 43,.mov (.tmp 6),none⟩,
 ⟨some 44,.bin .quo .no (.tmp 43) (.const (.int .i64 86400)),none⟩,⟨some 45,.call (.fn 258) [(.tmp 44)],none⟩,⟨some 42,.mov (.tmp 45),none⟩,⟨some 46,.ext 0 (.tmp 42),none⟩,⟨some 47,.ext 1 (.tmp 42),none⟩,
 ⟨some 11,.mov (.tmp 46),none⟩,⟨some 12,.mov (.tmp 47),none⟩]) (.seq (.region [⟨some 48,.mov (.tmp 6),none⟩,⟨some 49,.bin .rem .no (.tmp 48) (.const (.int .i64 86400)),none⟩,⟨some 13,.mov (.tmp 49),none⟩]) (.seq (.region [⟨some 14,.mov (.const (.str [43])),none⟩]) (.seq (.seq (.region [⟨some 50,.mov (.tmp 1),none⟩,
 ⟨some 51,.bin .lss .no (.tmp 50) (.const (.int .i64 0)),none⟩]) (.cond (.tmp 51) (.region [⟨some 52,.mov (.tmp 1),none⟩,⟨some 53,.un .neg (.tmp 52),none⟩,⟨some 14,.mov (.const (.str [45])),none⟩,⟨some 1,.mov (.tmp 53),none⟩]) (.skip))) (.seq (.region [⟨some 54,.mov (.tmp 13),none⟩,
 ⟨some 55,.bin .quo .no (.tmp 54) (.const (.int .i64 3600)),none⟩,⟨some 56,.call (.fn 276) [(.tmp 55)],none⟩,⟨some 57,.bin .add .no (.tmp 56) (.const (.str [58])),none⟩,⟨some 58,.mov (.tmp 13),none⟩,⟨some 59,.bin .quo .no (.tmp 58) (.const (.int .i64 60)),none⟩,
 ⟨some 60,.bin .rem .no (.tmp 59) (.const (.int .i64 60)),none⟩,⟨some 61,.call (.fn 276) [(.tmp 60)],none⟩,⟨some 62,.bin .add .no (.tmp 57) (.tmp 61),none⟩,⟨some 63,.bin .add .no (.tmp 62) (.const (.str [58])),none⟩,
 ⟨some 64,.mov (.tmp 13),none⟩,⟨some 65,.bin .rem .no (.tmp 64) (.const (.int .i64 60)),none⟩,⟨some 66,.call (.fn 276) [(.tmp 65)],none⟩,⟨some 67,.bin .add .no (.tmp 63) (.tmp 66),none⟩,⟨some 15,.mov (.tmp 67),none⟩]) (.seq (.region [⟨some 68,.mov (.tmp 11),none⟩,
 ⟨some 69,.call (.fn 277) [(.tmp 68)],none⟩,⟨some 70,.bin .add .no (.tmp 69) (.const (.str [44,32])),none⟩,⟨some 71,.mov (.tmp 9),none⟩,⟨some 72,.call (.fn 276) [(.tmp 71)],none⟩,⟨some 73,.bin .add .no (.tmp 70) (.tmp 72),none⟩,
 ⟨some 74,.bin .add .no (.tmp 73) (.const (.str [32])),none⟩,⟨some 75,.mov (.tmp 8),none⟩,⟨some 76,.call (.fn 278) [(.tmp 75)],none⟩,⟨some 77,.bin .add .no (.tmp 74) (.tmp 76),none⟩,⟨some 78,.bin .add .no (.tmp 77) (.const (.str [32])),none⟩,
 ⟨some 79,.mov (.tmp 7),none⟩,⟨some 80,.bin .quo .no (.tmp 79) (.const (.int .i64 100)),none⟩,⟨some 81,.call (.fn 276) [(.tmp 80)],none⟩,⟨some 82,.bin .add .no (.tmp 78) (.tmp 81),none⟩,⟨some 83,.mov (.tmp 7),none⟩,
 ⟨some 84,.call (.fn 276) [(.tmp 83)],none⟩,⟨some 85,.bin .add .no (.tmp 82) (.tmp 84),none⟩,⟨some 86,.bin .add .no (.tmp 85) (.const (.str [32])),none⟩,⟨some 87,.mov (.tmp 15),none⟩,⟨some 88,.bin .add .no (.tmp 86) (.tmp 87),none⟩,
 ⟨some 89,.bin .add .no (.tmp 88) (.const (.str [32])),none⟩,⟨some 90,.mov (.tmp 14),none⟩,⟨some 91,.bin .add .no (.tmp 89) (.tmp 90),none⟩,⟨some 92,.mov (.tmp 1),none⟩,⟨some 93,.bin .quo .no (.tmp 92) (.const (.int .i64 3600)),none⟩,
 ⟨some 94,.call (.fn 276) [(.tmp 93)],none⟩,⟨some 95,.bin .add .no (.tmp 91) (.tmp 94),none⟩,⟨some 96,.mov (.tmp 1),none⟩,⟨some 97,.bin .quo .no (.tmp 96) (.const (.int .i64 60)),none⟩,⟨some 98,.bin .rem .no (.tmp 97) (.const (.int .i64 60)),none⟩,
 ⟨some 99,.call (.fn 276) [(.tmp 98)],none⟩,⟨some 100,.bin .add .no (.tmp 95) (.tmp 99),none⟩,⟨some 4,.mov (.tmp 100),none⟩,⟨some 5,.mov (.const (.int .i64 0)),none⟩]) (.ret))))))))))) }

/-- posthorn/posthornref20.Print -/
def F_posthornref20_Print : ACFn := { nt := 111,results := [.tmp 4,.tmp 5],body := (.seq (.region [⟨some 4,.mov (.const (.str [])),none⟩,⟨some 5,.mov (.const (.int .i64 0)),none⟩]) (.seq (.seq (.region [⟨some 16,.mov (.tmp 0),none⟩,⟨some 17,.call (.fn 209) [(.tmp 16)],none⟩,
 ⟨some 18,.un .not (.tmp 17),none⟩,⟨some 19,.mov (.tmp 18),none⟩,⟨some 20,.mov (.tmp 1),some (19,false)⟩,⟨some 21,.call (.fn 279) [(.tmp 20)],some (19,false)⟩,⟨some 22,.un .not (.tmp 21),some (19,false)⟩,
 ⟨some 23,.pick (.tmp 19) (.const (.bool true)) (.tmp 22),none⟩,⟨some 24,.mov (.tmp 23),none⟩,⟨some 25,.mov (.tmp 0),some (24,false)⟩,⟨some 26,.mov (.tmp 1),some (24,false)⟩,⟨some 27,.bin .add .no (.tmp 25) (.tmp 26),some (24,false)⟩,
 ⟨some 28,.call (.fn 209) [(.tmp 27)],some (24,false)⟩,⟨some 29,.un .not (.tmp 28),some (24,false)⟩,⟨some 30,.pick (.tmp 24) (.const (.bool true)) (.tmp 29),none⟩]) (.cond (.tmp 30) (.seq (.region [⟨some 4,.mov (.const (.str [])),none⟩,
 ⟨some 5,.mov (.const (.int .i64 110)),none⟩]) (.ret)) (.skip))) (.seq (.region [⟨some 31,.mov (.tmp 0),none⟩,⟨some 32,.mov (.tmp 1),none⟩,⟨some 33,.bin .add .no (.tmp 31) (.tmp 32),none⟩,⟨some 34,.bin .quo .no (.tmp 33) (.const (.int .i64 86400)),none⟩,
 ⟨some 35,.mov (.tmp 0),none⟩,⟨some 36,.mov (.tmp 1),none⟩,⟨some 37,.bin .add .no (.tmp 35) (.tmp 36),none⟩,⟨some 38,.bin .rem .no (.tmp 37) (.const (.int .i64 86400)),none⟩,⟨some 6,.mov (.tmp 34),none⟩,
 ⟨some 7,.mov (.tmp 38),none⟩]) (.seq (.region [⟨some 40,.mov (.tmp 6),none⟩,⟨some 41,.call (.fn 280) [(.tmp 40)],none⟩,⟨some 39,.mov (.tmp 41),none⟩,⟨some 42,.ext 0 (.tmp 39),none⟩,⟨some 43,.ext 1 (.tmp 39),none⟩,
 ⟨some 44,.ext 2 (.tmp 39),none⟩,⟨some 45,.ext 3 (.tmp 39),none⟩,⟨some 8,.mov (.tmp 42),none⟩,⟨some 9,.mov (.tmp 43),none⟩,⟨some 10,.mov (.tmp 44),none⟩,⟨some 11,.mov (.tmp 45),none⟩]) (.seq (.region [⟨some 47,.mov (.tmp 6),none⟩,
 ⟨some 48,.call (.fn 259) [(.tmp 47)],none⟩,⟨some 46,.mov (.tmp 48),none⟩,⟨some 49,.ext 0 (.tmp 46),none⟩,⟨some 50,.ext 1 (.tmp 46),none⟩,⟨some 12,.mov (.tmp 49),none⟩,⟨some 13,.mov (.tmp 50),none⟩]) (.seq (.region [⟨some 51,.mov (.tmp 12),none⟩,
 ⟨some 52,.call (.fn 281) [(.tmp 51)],none⟩,⟨some 53,.bin .add .no (.tmp 52) (.const (.str [44,32])),none⟩,⟨some 54,.mov (.tmp 10),none⟩,⟨some 55,.call (.fn 282) [(.tmp 54),(.const (.int .i64 2))],none⟩,
 ⟨some 56,.bin .add .no (.tmp 53) (.tmp 55),none⟩,⟨some 57,.bin .add .no (.tmp 56) (.const (.str [32])),none⟩,⟨some 58,.mov (.tmp 9),none⟩,⟨some 59,.call (.fn 283) [(.tmp 58)],none⟩,⟨some 60,.bin .add .no (.tmp 57) (.tmp 59),none⟩,
 ⟨some 61,.bin .add .no (.tmp 60) (.const (.str [32])),none⟩,⟨some 62,.mov (.tmp 8),none⟩,⟨some 63,.call (.fn 282) [(.tmp 62),(.const (.int .i64 4))],none⟩,⟨some 64,.bin .add .no (.tmp 61) (.tmp 63),none⟩,
 ⟨some 14,.mov (.tmp 64),none⟩]) (.seq (.region [⟨some 65,.mov (.tmp 14),none⟩,⟨some 66,.bin .add .no (.tmp 65) (.const (.str [32])),none⟩,⟨some 67,.mov (.tmp 7),none⟩,⟨some 68,.bin .quo .no (.tmp 67) (.const (.int .i64 3600)),none⟩,
 ⟨some 69,.call (.fn 282) [(.tmp 68),(.const (.int .i64 2))],none⟩,⟨some 70,.bin .add .no (.tmp 66) (.tmp 69),none⟩,⟨some 71,.bin .add .no (.tmp 70) (.const (.str [58])),none⟩,⟨some 72,.mov (.tmp 7),none⟩,
 ⟨some 73,.bin .rem .no (.tmp 72) (.const (.int .i64 3600)),none⟩,⟨some 74,.bin .quo .no (.tmp 73) (.const (.int .i64 60)),none⟩,⟨some 75,.call (.fn 282) [(.tmp 74),(.const (.int .i64 2))],none⟩,⟨some 76,.bin .add .no (.tmp 71) (.tmp 75),none⟩,
 ⟨some 77,.bin .add .no (.tmp 76) (.const (.str [58])),none⟩,⟨some 78,.mov (.tmp 7),none⟩,⟨some 79,.bin .rem .no (.tmp 78) (.const (.int .i64 60)),none⟩,⟨some 80,.call (.fn 282) [(.tmp 79),(.const (.int .i64 2))],none⟩,
 ⟨some 81,.bin .add .no (.tmp 77) (.tmp 80),none⟩,⟨some 14,.mov (.tmp 81),none⟩]) (.seq (.region [⟨some 82,.mov (.tmp 1),none⟩,⟨some 15,.mov (.tmp 82),none⟩]) (.seq (.seq (.region [⟨some 83,.mov (.tmp 15),none⟩,
 ⟨some 84,.bin .lss .no (.tmp 83) (.const (.int .i64 0)),none⟩]) (.cond (.tmp 84) (.seq (.region [⟨some 85,.mov (.tmp 14),none⟩,⟨some 86,.bin .add .no (.tmp 85) (.const (.str [32,45])),none⟩,⟨some 87,.mov (.tmp 15),none⟩,
 ⟨some 88,.un .neg (.tmp 87),none⟩,⟨some 89,.bin .quo .no (.tmp 88) (.const (.int .i64 3600)),none⟩,⟨some 90,.call (.fn 282) [(.tmp 89),(.const (.int .i64 2))],none⟩,⟨some 91,.bin .add .no (.tmp 86) (.tmp 90),none⟩,
 ⟨some 92,.mov (.tmp 15),none⟩,⟨some 93,.un .neg (.tmp 92),none⟩,⟨some 94,.bin .rem .no (.tmp 93) (.const (.int .i64 3600)),none⟩,⟨some 95,.bin .quo .no (.tmp 94) (.const (.int .i64 60)),none⟩,⟨some 96,.call (.fn 282) [(.tmp 95),(.const (.int .i64 2))],none⟩,
 ⟨some 97,.bin .add .no (.tmp 91) (.tmp 96),none⟩,⟨some 98,.mov (.tmp 11),none⟩,⟨some 4,.mov (.tmp 97),none⟩,⟨some 5,.mov (.tmp 98),none⟩]) (.ret)) (.skip))) (.seq (.region [⟨some 99,.mov (.tmp 14),none⟩,
 ⟨some 100,.bin .add .no (.tmp 99) (.const (.str [32,43])),none⟩,⟨some 101,.mov (.tmp 15),none⟩,⟨some 102,.bin .quo .no (.tmp 101) (.const (.int .i64 3600)),none⟩,⟨some 103,.call (.fn 282) [(.tmp 102),(.const (.int .i64 2))],none⟩,
 ⟨some 104,.bin .add .no (.tmp 100) (.tmp 103),none⟩,⟨some 105,.mov (.tmp 15),none⟩,⟨some 106,.bin .rem .no (.tmp 105) (.const (.int .i64 3600)),none⟩,⟨some 107,.bin .quo .no (.tmp 106) (.const (.int .i64 60)),none⟩,
 ⟨some 108,.call (.fn 282) [(.tmp 107),(.const (.int .i64 2))],none⟩,⟨some 109,.bin .add .no (.tmp 104) (.tmp 108),none⟩,⟨some 110,.mov (.tmp 11),none⟩,⟨some 4,.mov (.tmp 109),none⟩,⟨some 5,.mov (.tmp 110),none⟩]) (.ret))))))))))) }

/-- posthorn/date.Weekday -/
def F_date_Weekday : ACFn := { nt := 13,results := [.tmp 2,.tmp 3],body := (.seq (.region [⟨some 2,.mov (.const (.int .i64 0)),none⟩,⟨some 3,.mov (.const (.int .i64 0)),none⟩]) (.seq (.seq (.region [⟨some 4,.mov (.tmp 0),none⟩,⟨some 5,.bin .lss .no (.tmp 4) (.const (.int .i64 0)),none⟩,
 ⟨some 6,.mov (.tmp 5),none⟩,⟨some 7,.mov (.tmp 0),some (6,false)⟩,⟨some 8,.bin .gtr .no (.tmp 7) (.const (.int .i64 2932896)),some (6,false)⟩,⟨some 9,.pick (.tmp 6) (.const (.bool true)) (.tmp 8),none⟩]) (.cond (.tmp 9) (.seq (.region [⟨some 2,.mov (.const (.int .i64 0)),none⟩,
 ⟨some 3,.mov (.const (.int .i64 110)),none⟩]) (.ret)) (.skip))) (.seq (.region [⟨some 10,.mov (.tmp 0),none⟩,⟨some 11,.bin .add .no (.tmp 10) (.const (.int .i64 3)),none⟩,⟨some 12,.bin .rem .no (.tmp 11) (.const (.int .i64 7)),none⟩,
 ⟨some 2,.mov (.tmp 12),none⟩,⟨some 3,.mov (.const (.int .i64 0)),none⟩]) (.ret)))) }

/-- posthorn/posthornref20.Weekday -/
def F_posthornref20_Weekday : ACFn := { nt := 19,results := [.tmp 2,.tmp 3],body := (.seq (.region [⟨some 2,.mov (.const (.int .i64 0)),none⟩,⟨some 3,.mov (.const (.int .i64 0)),none⟩]) (.seq (.seq (.region [⟨some 5,.mov (.tmp 0),none⟩,⟨some 6,.bin .lss .no (.tmp 5) (.const (.int .i64 0)),none⟩,
 ⟨some 7,.mov (.tmp 6),none⟩,⟨some 8,.mov (.tmp 0),some (7,false)⟩,⟨some 9,.bin .gtr .no (.tmp 8) (.const (.int .i64 2932896)),some (7,false)⟩,⟨some 10,.pick (.tmp 7) (.const (.bool true)) (.tmp 9),none⟩]) (.cond (.tmp 10) (.seq (.region [⟨some 2,.mov (.const (.int .i64 0)),none⟩,
 ⟨some 3,.mov (.const (.int .i64 110)),none⟩]) (.ret)) (.skip))) (.seq (.region [⟨some 11,.mov (.tmp 0),none⟩,⟨some 12,.bin .rem .no (.tmp 11) (.const (.int .i64 7)),none⟩,⟨some 4,.mov (.tmp 12),none⟩]) (.seq (.seq (.region [⟨some 13,.mov (.tmp 4),none⟩,
 ⟨some 14,.bin .lss .no (.tmp 13) (.const (.int .i64 4)),none⟩]) (.cond (.tmp 14) (.seq (.region [⟨some 15,.mov (.tmp 4),none⟩,⟨some 16,.bin .add .no (.tmp 15) (.const (.int .i64 3)),none⟩,⟨some 2,.mov (.tmp 16),none⟩,
 ⟨some 3,.mov (.const (.int .i64 0)),none⟩]) (.ret)) (.skip))) (.seq (.region [⟨some 17,.mov (.tmp 4),none⟩,⟨some 18,.bin .sub .no (.tmp 17) (.const (.int .i64 4)),none⟩,⟨some 2,.mov (.tmp 18),none⟩,⟨some 3,.mov (.const (.int .i64 0)),none⟩]) (.ret)))))) }

/-- posthorn/posthornlaw20.DatePrints -/
def F_posthornlaw20_DatePrints : ACFn := { nt := 58,results := [.tmp 6],body := (.seq (.region [⟨some 6,.mov (.const (.bool false)),none⟩]) (.seq (.region [⟨some 16,.mov (.tmp 0),none⟩,⟨some 17,.mov (.tmp 1),none⟩,⟨some 18,.call (.fn 256) [(.tmp 16),(.tmp 17)],none⟩,
 ⟨some 15,.mov (.tmp 18),none⟩,⟨some 19,.ext 0 (.tmp 15),none⟩,⟨some 20,.ext 1 (.tmp 15),none⟩,⟨some 7,.mov (.tmp 19),none⟩,⟨some 8,.mov (.tmp 20),none⟩]) (.seq (.region [⟨some 22,.mov (.tmp 0),none⟩,⟨some 23,.mov (.tmp 1),none⟩,
 ⟨some 24,.call (.fn 257) [(.tmp 22),(.tmp 23)],none⟩,⟨some 21,.mov (.tmp 24),none⟩,⟨some 25,.ext 0 (.tmp 21),none⟩,⟨some 26,.ext 1 (.tmp 21),none⟩,⟨some 9,.mov (.tmp 25),none⟩,⟨some 10,.mov (.tmp 26),none⟩]) (.seq (.region [⟨some 28,.mov (.tmp 2),none⟩,
 ⟨some 29,.call (.fn 258) [(.tmp 28)],none⟩,⟨some 27,.mov (.tmp 29),none⟩,⟨some 30,.ext 0 (.tmp 27),none⟩,⟨some 31,.ext 1 (.tmp 27),none⟩,⟨some 11,.mov (.tmp 30),none⟩,⟨some 12,.mov (.tmp 31),none⟩]) (.seq (.region [⟨some 33,.mov (.tmp 2),none⟩,
 ⟨some 34,.call (.fn 259) [(.tmp 33)],none⟩,⟨some 32,.mov (.tmp 34),none⟩,⟨some 35,.ext 0 (.tmp 32),none⟩,⟨some 36,.ext 1 (.tmp 32),none⟩,⟨some 13,.mov (.tmp 35),none⟩,⟨some 14,.mov (.tmp 36),none⟩]) (.seq (.region [⟨some 37,.call (.fn 260) [],none⟩,
 ⟨some 38,.mov (.tmp 37),none⟩,⟨some 39,.mov (.tmp 7),some (38,true)⟩,⟨some 40,.mov (.tmp 9),some (38,true)⟩,⟨some 41,.bin .eql .no (.tmp 39) (.tmp 40),some (38,true)⟩,⟨some 42,.pick (.tmp 38) (.tmp 41) (.const (.bool false)),none⟩,
 ⟨some 43,.mov (.tmp 42),none⟩,⟨some 44,.mov (.tmp 8),some (43,true)⟩,⟨some 45,.mov (.tmp 10),some (43,true)⟩,⟨some 46,.bin .eql .no (.tmp 44) (.tmp 45),some (43,true)⟩,⟨some 47,.pick (.tmp 43) (.tmp 46) (.const (.bool false)),none⟩,
 ⟨some 48,.mov (.tmp 47),none⟩,⟨some 49,.mov (.tmp 11),some (48,true)⟩,⟨some 50,.mov (.tmp 13),some (48,true)⟩,⟨some 51,.bin .eql .no (.tmp 49) (.tmp 50),some (48,true)⟩,⟨some 52,.pick (.tmp 48) (.tmp 51) (.const (.bool false)),none⟩,
 ⟨some 53,.mov (.tmp 52),none⟩,⟨some 54,.mov (.tmp 12),some (53,true)⟩,⟨some 55,.mov (.tmp 14),some (53,true)⟩,⟨some 56,.bin .eql .no (.tmp 54) (.tmp 55),some (53,true)⟩,⟨some 57,.pick (.tmp 53) (.tmp 56) (.const (.bool false)),none⟩,
 ⟨some 6,.mov (.tmp 57),none⟩]) (.ret))))))) }

/-- posthorn/date.Parse -/
def F_date_Parse : ACFn := { nt := 114,results := [.tmp 2,.tmp 3,.tmp 4],body := (.seq (.region [⟨some 2,.mov (.const (.int .i64 0)),none⟩,⟨some 3,.mov (.const (.int .i64 0)),none⟩,⟨some 4,.mov (.const (.int .i64 0)),none⟩]) (.seq (.region [⟨some 5,.alloc [.nils],none⟩]) (.seq (.seq (.region [⟨some 20,.mov (.tmp 0),none⟩,
 ⟨some 21,.call (.fn 284) [(.tmp 20)],none⟩,⟨some 22,.call (.fn 285) [(.tmp 21)],none⟩]) (.block 0 (.rangeFunc (.tmp 22) [23] (.region [⟨some 6,.mov (.tmp 23),none⟩]) (.block 1 (.region [⟨some 24,.load false 1 (.tmp 5),none⟩,
 ⟨some 25,.mov (.tmp 6),none⟩,⟨some 26,.lit 1 (.str []) 1 [(0,(.tmp 25))],none⟩,⟨some 27,.app false 1 (.tmp 24) (.tmp 26),none⟩,⟨none,.store 1 (.tmp 5) (.tmp 27),none⟩]))))) (.seq (.region [⟨some 29,.load false 1 (.tmp 5),none⟩,
 ⟨some 30,.call (.fn 286) [(.tmp 29)],none⟩,⟨some 28,.mov (.tmp 30),none⟩,⟨some 31,.ext 0 (.tmp 28),none⟩,⟨some 32,.ext 1 (.tmp 28),none⟩,⟨some 7,.mov (.tmp 31),none⟩,⟨none,.store 1 (.tmp 5) (.tmp 32),none⟩]) (.seq (.seq (.region [⟨some 33,.mov (.tmp 7),none⟩,
 ⟨some 34,.bin .eql .no (.tmp 33) (.const (.int .i64 (-2))),none⟩,⟨some 35,.mov (.tmp 34),none⟩,⟨some 36,.load false 1 (.tmp 5),some (35,false)⟩,⟨some 37,.len false (.tmp 36),some (35,false)⟩,⟨some 38,.bin .lss .no (.tmp 37) (.const (.int .i64 4)),some (35,false)⟩,
 ⟨some 39,.pick (.tmp 35) (.const (.bool true)) (.tmp 38),none⟩,⟨some 40,.mov (.tmp 39),none⟩,⟨some 41,.load false 1 (.tmp 5),some (40,false)⟩,⟨some 42,.len false (.tmp 41),some (40,false)⟩,⟨some 43,.bin .gtr .no (.tmp 42) (.const (.int .i64 5)),some (40,false)⟩,
 ⟨some 44,.pick (.tmp 40) (.const (.bool true)) (.tmp 43),none⟩]) (.cond (.tmp 44) (.seq (.region [⟨some 2,.mov (.const (.int .i64 0)),none⟩,⟨some 3,.mov (.const (.int .i64 0)),none⟩,⟨some 4,.mov (.const (.int .i64 110)),none⟩]) (.ret)) (.skip))) (.seq (.region [⟨some 45,.load false 1 (.tmp 5),none⟩,
 ⟨some 46,.iaddr 1 (.tmp 45) (.const (.int .i64 0)),none⟩,⟨some 47,.loadc false 1 (.tmp 46),none⟩,⟨some 48,.callk (.fn 287) [(.tmp 47),(.const (.int .i64 1)),(.const (.int .i64 2))],none⟩,⟨some 49,.load false 1 (.tmp 5),none⟩,
 ⟨some 50,.iaddr 1 (.tmp 49) (.const (.int .i64 1)),none⟩,⟨some 51,.loadc false 1 (.tmp 50),none⟩,⟨some 52,.callk (.fn 288) [(.tmp 51),(.const (.int .i64 13)),(.fn 278)],none⟩,⟨some 53,.load false 1 (.tmp 5),none⟩,
 ⟨some 54,.iaddr 1 (.tmp 53) (.const (.int .i64 2)),none⟩,⟨some 55,.loadc false 1 (.tmp 54),none⟩,⟨some 56,.callk (.fn 289) [(.tmp 55)],none⟩,⟨some 57,.load false 1 (.tmp 5),none⟩,⟨some 58,.iaddr 1 (.tmp 57) (.const (.int .i64 3)),none⟩,
 ⟨some 59,.loadc false 1 (.tmp 58),none⟩,⟨some 60,.callk (.fn 290) [(.tmp 59)],none⟩,⟨some 8,.mov (.tmp 48),none⟩,⟨some 9,.mov (.tmp 52),none⟩,⟨some 10,.mov (.tmp 56),none⟩,⟨some 11,.mov (.tmp 60),none⟩]) (.seq (.region [⟨some 12,.mov (.const (.str [])),none⟩]) (.seq (.seq (.region [⟨some 61,.load false 1 (.tmp 5),none⟩,
 ⟨some 62,.len false (.tmp 61),none⟩,⟨some 63,.bin .eql .no (.tmp 62) (.const (.int .i64 5)),none⟩]) (.cond (.tmp 63) (.region [⟨some 64,.load false 1 (.tmp 5),none⟩,⟨some 65,.iaddr 1 (.tmp 64) (.const (.int .i64 4)),none⟩,
 ⟨some 66,.loadc false 1 (.tmp 65),none⟩,⟨some 12,.mov (.tmp 66),none⟩]) (.skip))) (.seq (.region [⟨some 68,.mov (.tmp 12),none⟩,⟨some 69,.call (.fn 291) [(.tmp 68)],none⟩,⟨some 67,.mov (.tmp 69),none⟩,
 ⟨some 70,.ext 0 (.tmp 67),none⟩,⟨some 71,.ext 1 (.tmp 67),none⟩,⟨some 13,.mov (.tmp 70),none⟩,⟨some 14,.mov (.tmp 71),none⟩]) (.seq (.region [⟨some 73,.mov (.tmp 10),none⟩,⟨some 74,.mov (.tmp 9),none⟩,
 ⟨some 75,.mov (.tmp 8),none⟩,⟨some 76,.call (.fn 292) [(.tmp 73),(.tmp 74),(.tmp 75)],none⟩,⟨some 72,.mov (.tmp 76),none⟩,⟨some 77,.ext 0 (.tmp 72),none⟩,⟨some 78,.ext 1 (.tmp 72),none⟩,⟨some 15,.mov (.tmp 77),none⟩,
 ⟨some 16,.mov (.tmp 78),none⟩]) (.seq (.region [⟨some 79,.mov (.tmp 15),none⟩,⟨some 80,.bin .mul .no (.tmp 79) (.const (.int .i64 86400)),none⟩,⟨some 81,.mov (.tmp 11),none⟩,⟨some 82,.bin .add .no (.tmp 80) (.tmp 81),none⟩,
 ⟨some 83,.mov (.tmp 13),none⟩,⟨some 84,.bin .sub .no (.tmp 82) (.tmp 83),none⟩,⟨some 17,.mov (.tmp 84),none⟩]) (.seq (.seq (.region [⟨some 85,.mov (.tmp 16),none⟩,⟨some 86,.bin .neq .no (.tmp 85) (.const (.int .i64 0)),none⟩,
 ⟨some 87,.mov (.tmp 86),none⟩,⟨some 88,.mov (.tmp 11),some (87,false)⟩,⟨some 89,.bin .lss .no (.tmp 88) (.const (.int .i64 0)),some (87,false)⟩,⟨some 90,.pick (.tmp 87) (.const (.bool true)) (.tmp 89),none⟩,
 ⟨some 91,.mov (.tmp 90),none⟩,⟨some 92,.mov (.tmp 14),some (91,false)⟩,⟨some 93,.un .not (.tmp 92),some (91,false)⟩,⟨some 94,.pick (.tmp 91) (.const (.bool true)) (.tmp 93),none⟩,⟨some 95,.mov (.tmp 94),none⟩,
 ⟨some 96,.mov (.tmp 17),some (95,false)⟩,⟨some 97,.call (.fn 199) [(.tmp 96)],some (95,false)⟩,⟨some 98,.un .not (.tmp 97),some (95,false)⟩,⟨some 99,.pick (.tmp 95) (.const (.bool true)) (.tmp 98),none⟩]) (.cond (.tmp 99) (.seq (.region [⟨some 2,.mov (.const (.int .i64 0)),none⟩,
 ⟨some 3,.mov (.const (.int .i64 0)),none⟩,⟨some 4,.mov (.const (.int .i64 110)),none⟩]) (.ret)) (.skip))) (.seq (.seq (.region [⟨some 101,.mov (.tmp 15),none⟩,⟨some 102,.call (.fn 258) [(.tmp 101)],none⟩,
 ⟨some 100,.mov (.tmp 102),none⟩,⟨some 103,.ext 0 (.tmp 100),none⟩,⟨some 104,.ext 1 (.tmp 100),none⟩,⟨some 18,.mov (.tmp 103),none⟩,⟨some 19,.mov (.tmp 104),none⟩]) (.seq (.region [⟨some 105,.mov (.tmp 7),none⟩,
 ⟨some 106,.bin .geq .no (.tmp 105) (.const (.int .i64 0)),none⟩,⟨some 107,.mov (.tmp 106),none⟩,⟨some 108,.mov (.tmp 18),some (107,true)⟩,⟨some 109,.mov (.tmp 7),some (107,true)⟩,⟨some 110,.bin .neq .no (.tmp 108) (.tmp 109),some (107,true)⟩,
 ⟨some 111,.pick (.tmp 107) (.tmp 110) (.const (.bool false)),none⟩]) (.cond (.tmp 111) (.seq (.region [⟨some 2,.mov (.const (.int .i64 0)),none⟩,⟨some 3,.mov (.const (.int .i64 0)),none⟩,⟨some 4,.mov (.const (.int .i64 110)),none⟩]) (.ret)) (.skip)))) (.seq (.region [⟨some 112,.mov (.tmp 17),none⟩,
 ⟨some 113,.mov (.tmp 13),none⟩,⟨some 2,.mov (.tmp 112),none⟩,⟨some 3,.mov (.tmp 113),none⟩,⟨some 4,.mov (.const (.int .i64 0)),none⟩]) (.ret))))))))))))))) }

/-- posthorn/date.ID -/
def F_date_ID : ACFn := { nt := 33,results := [.tmp 6,.tmp 7],body := (.seq (.region [⟨some 6,.mov (.const (.str [])),none⟩,⟨some 7,.mov (.const (.int .i64 0)),none⟩]) (.seq (.seq (.region [⟨some 8,.mov (.tmp 0),none⟩,⟨some 9,.call (.fn 199) [(.tmp 8)],none⟩,
 ⟨some 10,.un .not (.tmp 9),none⟩,⟨some 11,.mov (.tmp 10),none⟩,⟨some 12,.mov (.tmp 1),some (11,false)⟩,⟨some 13,.bin .lss .no (.tmp 12) (.const (.int .i64 0)),some (11,false)⟩,⟨some 14,.pick (.tmp 11) (.const (.bool true)) (.tmp 13),none⟩,
 ⟨some 15,.mov (.tmp 14),none⟩,⟨some 16,.mov (.tmp 2),some (15,false)⟩,⟨some 17,.call (.fn 302) [(.tmp 16)],some (15,false)⟩,⟨some 18,.un .not (.tmp 17),some (15,false)⟩,⟨some 19,.pick (.tmp 15) (.const (.bool true)) (.tmp 18),none⟩]) (.cond (.tmp 19) (.seq (.region [⟨some 6,.mov (.const (.str [])),none⟩,
 ⟨some 7,.mov (.const (.int .i64 1)),none⟩]) (.ret)) (.skip))) (.seq (.region [⟨some 20,.mov (.tmp 0),none⟩,⟨some 21,.cInt .u64 (.tmp 20),none⟩,⟨some 22,.call (.fn 303) [(.tmp 21)],none⟩,⟨some 23,.bin .add .no (.const (.str [60])) (.tmp 22),none⟩,
 ⟨some 24,.bin .add .no (.tmp 23) (.const (.str [46])),none⟩,⟨some 25,.mov (.tmp 1),none⟩,⟨some 26,.cInt .u64 (.tmp 25),none⟩,⟨some 27,.call (.fn 303) [(.tmp 26)],none⟩,⟨some 28,.bin .add .no (.tmp 24) (.tmp 27),none⟩,
 ⟨some 29,.bin .add .no (.tmp 28) (.const (.str [64])),none⟩,⟨some 30,.mov (.tmp 2),none⟩,⟨some 31,.bin .add .no (.tmp 29) (.tmp 30),none⟩,⟨some 32,.bin .add .no (.tmp 31) (.const (.str [62])),none⟩,⟨some 6,.mov (.tmp 32),none⟩,
 ⟨some 7,.mov (.const (.int .i64 0)),none⟩]) (.ret)))) }

/-- posthorn/date.IDs -/
def F_date_IDs : ACFn := { nt := 60,results := [.tmp 2,.tmp 3],body := (.seq (.region [⟨some 2,.mov (.const (.nils)),none⟩,⟨some 3,.mov (.const (.int .i64 0)),none⟩]) (.seq (.region [⟨some 4,.mov (.const (.nils)),none⟩]) (.seq (.block 0 (.loop (.seq (.seq (.region [⟨some 12,.mov (.tmp 0),none⟩,
 ⟨some 13,.bin .neq .no (.tmp 12) (.const (.str [])),none⟩]) (.cond (.tmp 13) (.skip) (.exit 0))) (.block 1 (.seq (.seq (.region [⟨some 14,.mov (.tmp 0),none⟩,⟨some 15,.idxS (.tmp 14) (.const (.int .i64 0)),none⟩,
 ⟨some 16,.bin .eql .no (.tmp 15) (.const (.b8 32)),none⟩,⟨some 17,.mov (.tmp 16),none⟩,⟨some 18,.mov (.tmp 0),some (17,false)⟩,⟨some 19,.idxS (.tmp 18) (.const (.int .i64 0)),some (17,false)⟩,⟨some 20,.bin .eql .no (.tmp 19) (.const (.b8 9)),some (17,false)⟩,
 ⟨some 21,.pick (.tmp 17) (.const (.bool true)) (.tmp 20),none⟩]) (.cond (.tmp 21) (.seq (.region [⟨some 22,.mov (.tmp 0),none⟩,⟨some 23,.slc 0 (.tmp 22) (some (.const (.int .i64 1))) none none,none⟩,⟨some 0,.mov (.tmp 23),none⟩]) (.exit 1)) (.skip))) (.seq (.region [⟨some 25,.mov (.tmp 0),none⟩,
 ⟨some 26,.call (.fn 128) [(.tmp 25),(.const (.str [62]))],none⟩,⟨some 24,.mov (.tmp 26),none⟩,⟨some 27,.ext 0 (.tmp 24),none⟩,⟨some 28,.ext 1 (.tmp 24),none⟩,⟨some 29,.ext 2 (.tmp 24),none⟩,⟨some 5,.mov (.tmp 27),none⟩,
 ⟨some 6,.mov (.tmp 28),none⟩,⟨some 7,.mov (.tmp 29),none⟩]) (.seq (.region [⟨some 31,.mov (.tmp 5),none⟩,⟨some 32,.call (.fn 305) [(.tmp 31),(.const (.str [60]))],none⟩,⟨some 30,.mov (.tmp 32),none⟩,⟨some 33,.ext 0 (.tmp 30),none⟩,
 ⟨some 34,.ext 1 (.tmp 30),none⟩,⟨some 8,.mov (.tmp 33),none⟩,⟨some 9,.mov (.tmp 34),none⟩]) (.seq (.seq (.region [⟨some 36,.mov (.tmp 8),none⟩,⟨some 37,.call (.fn 115) [(.tmp 36)],none⟩,⟨some 35,.mov (.tmp 37),none⟩,
 ⟨some 38,.ext 0 (.tmp 35),none⟩,⟨some 39,.ext 1 (.tmp 35),none⟩,⟨some 10,.alloc [.str [],.str [],.str []],none⟩,⟨none,.store 3 (.tmp 10) (.tmp 38),none⟩,⟨some 11,.mov (.tmp 39),none⟩]) (.seq (.region [⟨some 40,.mov (.tmp 7),none⟩,
 ⟨some 41,.un .not (.tmp 40),none⟩,⟨some 42,.mov (.tmp 41),none⟩,⟨some 43,.mov (.tmp 9),some (42,false)⟩,⟨some 44,.un .not (.tmp 43),some (42,false)⟩,⟨some 45,.pick (.tmp 42) (.const (.bool true)) (.tmp 44),none⟩,
 ⟨some 46,.mov (.tmp 45),none⟩,⟨some 47,.mov (.tmp 11),some (46,false)⟩,⟨some 48,.bin .neq .no (.tmp 47) (.const (.int .i64 0)),some (46,false)⟩,⟨some 49,.pick (.tmp 46) (.const (.bool true)) (.tmp 48),none⟩]) (.cond (.tmp 49) (.seq (.region [⟨some 2,.mov (.const (.nils)),none⟩,
 ⟨some 3,.mov (.const (.int .i64 3)),none⟩]) (.ret)) (.skip)))) (.seq (.region [⟨some 50,.mov (.tmp 4),none⟩,⟨some 51,.mov (.tmp 5),none⟩,⟨some 52,.bin .add .no (.tmp 51) (.const (.str [62])),none⟩,⟨some 53,.lit 1 (.str []) 1 [(0,(.tmp 52))],none⟩,
 ⟨some 54,.app false 1 (.tmp 50) (.tmp 53),none⟩,⟨some 4,.mov (.tmp 54),none⟩]) (.region [⟨some 55,.mov (.tmp 6),none⟩,⟨some 0,.mov (.tmp 55),none⟩])))))))))) (.seq (.seq (.region [⟨some 56,.mov (.tmp 4),none⟩,
 ⟨some 57,.len false (.tmp 56),none⟩,⟨some 58,.bin .gtr .no (.tmp 57) (.const (.int .i64 64)),none⟩]) (.cond (.tmp 58) (.seq (.region [⟨some 2,.mov (.const (.nils)),none⟩,⟨some 3,.mov (.const (.int .i64 2)),none⟩]) (.ret)) (.skip))) (.seq (.region [⟨some 59,.mov (.tmp 4),none⟩,
 ⟨some 2,.mov (.tmp 59),none⟩,⟨some 3,.mov (.const (.int .i64 0)),none⟩]) (.ret)))))) }

/-- posthorn/posthornlaw20.DateUnlike -/
def F_posthornlaw20_DateUnlike : ACFn := { nt := 120,results := [.tmp 10],body := (.seq (.region [⟨some 10,.mov (.const (.bool false)),none⟩]) (.seq (.seq (.region [⟨some 19,.mov (.tmp 4),none⟩,⟨some 20,.len true (.tmp 19),none⟩,⟨some 21,.bin .gtr .no (.tmp 20) (.const (.int .i64 600)),none⟩]) (.cond (.tmp 21) (.seq (.region [⟨some 22,.call (.fn 260) [],none⟩,
 ⟨some 10,.mov (.tmp 22),none⟩]) (.ret)) (.skip))) (.seq (.region [⟨some 24,.mov (.tmp 0),none⟩,⟨some 25,.mov (.tmp 2),none⟩,⟨some 26,.mov (.tmp 4),none⟩,⟨some 27,.call (.fn 265) [(.tmp 24),(.tmp 25),(.tmp 26)],none⟩,
 ⟨some 23,.mov (.tmp 27),none⟩,⟨some 28,.ext 0 (.tmp 23),none⟩,⟨some 29,.ext 1 (.tmp 23),none⟩,⟨some 11,.mov (.tmp 28),none⟩,⟨some 12,.mov (.tmp 29),none⟩]) (.seq (.region [⟨some 31,.mov (.tmp 1),none⟩,
 ⟨some 32,.mov (.tmp 3),none⟩,⟨some 33,.mov (.tmp 4),none⟩,⟨some 34,.call (.fn 265) [(.tmp 31),(.tmp 32),(.tmp 33)],none⟩,⟨some 30,.mov (.tmp 34),none⟩,⟨some 35,.ext 0 (.tmp 30),none⟩,⟨some 36,.ext 1 (.tmp 30),none⟩,
 ⟨some 13,.mov (.tmp 35),none⟩,⟨some 14,.mov (.tmp 36),none⟩]) (.seq (.seq (.region [⟨some 37,.mov (.tmp 12),none⟩,⟨some 38,.bin .neq .no (.tmp 37) (.const (.int .i64 0)),none⟩,⟨some 39,.mov (.tmp 38),none⟩,
 ⟨some 40,.mov (.tmp 14),some (39,false)⟩,⟨some 41,.bin .neq .no (.tmp 40) (.const (.int .i64 0)),some (39,false)⟩,⟨some 42,.pick (.tmp 39) (.const (.bool true)) (.tmp 41),none⟩]) (.cond (.tmp 42) (.seq (.region [⟨some 43,.call (.fn 260) [],none⟩,
 ⟨some 10,.mov (.tmp 43),none⟩]) (.ret)) (.skip))) (.seq (.region [⟨some 45,.mov (.tmp 11),none⟩,⟨some 46,.mov (.tmp 13),none⟩,⟨some 47,.bin .add .no (.tmp 45) (.tmp 46),none⟩,⟨some 48,.call (.fn 267) [(.tmp 47)],none⟩,
 ⟨some 44,.mov (.tmp 48),none⟩,⟨some 49,.ext 0 (.tmp 44),none⟩,⟨some 50,.ext 1 (.tmp 44),none⟩,⟨some 15,.mov (.tmp 49),none⟩,⟨some 16,.mov (.tmp 50),none⟩]) (.seq (.region [⟨some 52,.mov (.tmp 11),none⟩,
 ⟨some 53,.bin .add .no (.const (.str [32])) (.tmp 52),none⟩,⟨some 54,.bin .add .no (.tmp 53) (.const (.str [9])),none⟩,⟨some 55,.mov (.tmp 13),none⟩,⟨some 56,.bin .add .no (.tmp 54) (.tmp 55),none⟩,⟨some 57,.bin .add .no (.tmp 56) (.const (.str [32])),none⟩,
 ⟨some 58,.call (.fn 267) [(.tmp 57)],none⟩,⟨some 51,.mov (.tmp 58),none⟩,⟨some 59,.ext 0 (.tmp 51),none⟩,⟨some 60,.ext 1 (.tmp 51),none⟩,⟨some 17,.mov (.tmp 59),none⟩,⟨some 18,.mov (.tmp 60),none⟩]) (.seq (.seq (.region [⟨some 61,.mov (.tmp 16),none⟩,
 ⟨some 62,.bin .neq .no (.tmp 61) (.const (.int .i64 0)),none⟩,⟨some 63,.mov (.tmp 62),none⟩,⟨some 64,.mov (.tmp 18),some (63,false)⟩,⟨some 65,.bin .neq .no (.tmp 64) (.const (.int .i64 0)),some (63,false)⟩,
 ⟨some 66,.pick (.tmp 63) (.const (.bool true)) (.tmp 65),none⟩,⟨some 67,.mov (.tmp 66),none⟩,⟨some 68,.mov (.tmp 15),some (67,false)⟩,⟨some 69,.len false (.tmp 68),some (67,false)⟩,⟨some 70,.bin .neq .no (.tmp 69) (.const (.int .i64 2)),some (67,false)⟩,
 ⟨some 71,.pick (.tmp 67) (.const (.bool true)) (.tmp 70),none⟩,⟨some 72,.mov (.tmp 71),none⟩,⟨some 73,.mov (.tmp 17),some (72,false)⟩,⟨some 74,.len false (.tmp 73),some (72,false)⟩,⟨some 75,.bin .neq .no (.tmp 74) (.const (.int .i64 2)),some (72,false)⟩,
 ⟨some 76,.pick (.tmp 72) (.const (.bool true)) (.tmp 75),none⟩]) (.cond (.tmp 76) (.seq (.region [⟨some 10,.mov (.const (.bool false)),none⟩]) (.ret)) (.skip))) (.seq (.region [⟨some 77,.call (.fn 260) [],none⟩,
 ⟨some 78,.mov (.tmp 77),none⟩,⟨some 79,.mov (.tmp 11),some (78,true)⟩,⟨some 80,.mov (.tmp 13),some (78,true)⟩,⟨some 81,.bin .eql .no (.tmp 79) (.tmp 80),some (78,true)⟩,⟨some 82,.mov (.tmp 0),some (78,true)⟩,
 ⟨some 83,.mov (.tmp 1),some (78,true)⟩,⟨some 84,.bin .eql .no (.tmp 82) (.tmp 83),some (78,true)⟩,⟨some 85,.mov (.tmp 84),some (78,true)⟩,⟨some 86,.mov (.tmp 2),some (85,true)⟩,⟨some 87,.mov (.tmp 3),some (85,true)⟩,
 ⟨some 88,.bin .eql .no (.tmp 86) (.tmp 87),some (85,true)⟩,⟨some 89,.pick (.tmp 85) (.tmp 88) (.const (.bool false)),some (78,true)⟩,⟨some 90,.bin .eql .bool (.tmp 81) (.tmp 89),some (78,true)⟩,⟨some 91,.pick (.tmp 78) (.tmp 90) (.const (.bool false)),none⟩,
 ⟨some 92,.mov (.tmp 91),none⟩,⟨some 93,.mov (.tmp 15),some (92,true)⟩,⟨some 94,.iaddr 1 (.tmp 93) (.const (.int .i64 0)),some (92,true)⟩,⟨some 95,.load false 1 (.tmp 94),some (92,true)⟩,⟨some 96,.mov (.tmp 11),some (92,true)⟩,
 ⟨some 97,.bin .eql .no (.tmp 95) (.tmp 96),some (92,true)⟩,⟨some 98,.pick (.tmp 92) (.tmp 97) (.const (.bool false)),none⟩,⟨some 99,.mov (.tmp 98),none⟩,⟨some 100,.mov (.tmp 15),some (99,true)⟩,⟨some 101,.iaddr 1 (.tmp 100) (.const (.int .i64 1)),some (99,true)⟩,
 ⟨some 102,.load false 1 (.tmp 101),some (99,true)⟩,⟨some 103,.mov (.tmp 13),some (99,true)⟩,⟨some 104,.bin .eql .no (.tmp 102) (.tmp 103),some (99,true)⟩,⟨some 105,.pick (.tmp 99) (.tmp 104) (.const (.bool false)),none⟩,
 ⟨some 106,.mov (.tmp 105),none⟩,⟨some 107,.mov (.tmp 17),some (106,true)⟩,⟨some 108,.iaddr 1 (.tmp 107) (.const (.int .i64 0)),some (106,true)⟩,⟨some 109,.load false 1 (.tmp 108),some (106,true)⟩,⟨some 110,.mov (.tmp 11),some (106,true)⟩,
 ⟨some 111,.bin .eql .no (.tmp 109) (.tmp 110),some (106,true)⟩,⟨some 112,.pick (.tmp 106) (.tmp 111) (.const (.bool false)),none⟩,⟨some 113,.mov (.tmp 112),none⟩,⟨some 114,.mov (.tmp 17),some (113,true)⟩,
 ⟨some 115,.iaddr 1 (.tmp 114) (.const (.int .i64 1)),some (113,true)⟩,⟨some 116,.load false 1 (.tmp 115),some (113,true)⟩,⟨some 117,.mov (.tmp 13),some (113,true)⟩,⟨some 118,.bin .eql .no (.tmp 116) (.tmp 117),some (113,true)⟩,
 ⟨some 119,.pick (.tmp 113) (.tmp 118) (.const (.bool false)),none⟩,⟨some 10,.mov (.tmp 119),none⟩]) (.ret)))))))))) }

/-- posthorn/posthornlaw20.DateWeeks -/
def F_posthornlaw20_DateWeeks : ACFn := { nt := 66,results := [.tmp 2],body := (.seq (.region [⟨some 2,.mov (.const (.bool false)),none⟩]) (.seq (.seq (.region [⟨some 9,.mov (.tmp 0),none⟩,⟨some 10,.bin .lss .no (.tmp 9) (.const (.int .i64 7)),none⟩,
 ⟨some 11,.mov (.tmp 10),none⟩,⟨some 12,.mov (.tmp 0),some (11,false)⟩,⟨some 13,.bin .gtr .no (.tmp 12) (.const (.int .i64 2932896)),some (11,false)⟩,⟨some 14,.pick (.tmp 11) (.const (.bool true)) (.tmp 13),none⟩]) (.cond (.tmp 14) (.seq (.region [⟨some 15,.call (.fn 260) [],none⟩,
 ⟨some 2,.mov (.tmp 15),none⟩]) (.ret)) (.skip))) (.seq (.region [⟨some 17,.mov (.tmp 0),none⟩,⟨some 18,.call (.fn 258) [(.tmp 17)],none⟩,⟨some 16,.mov (.tmp 18),none⟩,⟨some 19,.ext 0 (.tmp 16),none⟩,⟨some 20,.ext 1 (.tmp 16),none⟩,
 ⟨some 3,.mov (.tmp 19),none⟩,⟨some 4,.mov (.tmp 20),none⟩]) (.seq (.region [⟨some 22,.mov (.tmp 0),none⟩,⟨some 23,.bin .sub .no (.tmp 22) (.const (.int .i64 1)),none⟩,⟨some 24,.call (.fn 258) [(.tmp 23)],none⟩,
 ⟨some 21,.mov (.tmp 24),none⟩,⟨some 25,.ext 0 (.tmp 21),none⟩,⟨some 26,.ext 1 (.tmp 21),none⟩,⟨some 5,.mov (.tmp 25),none⟩,⟨some 6,.mov (.tmp 26),none⟩]) (.seq (.region [⟨some 28,.mov (.tmp 0),none⟩,⟨some 29,.bin .sub .no (.tmp 28) (.const (.int .i64 7)),none⟩,
 ⟨some 30,.call (.fn 258) [(.tmp 29)],none⟩,⟨some 27,.mov (.tmp 30),none⟩,⟨some 31,.ext 0 (.tmp 27),none⟩,⟨some 32,.ext 1 (.tmp 27),none⟩,⟨some 7,.mov (.tmp 31),none⟩,⟨some 8,.mov (.tmp 32),none⟩]) (.seq (.region [⟨some 33,.call (.fn 260) [],none⟩,
 ⟨some 34,.mov (.tmp 33),none⟩,⟨some 35,.mov (.tmp 4),some (34,true)⟩,⟨some 36,.bin .eql .no (.tmp 35) (.const (.int .i64 0)),some (34,true)⟩,⟨some 37,.pick (.tmp 34) (.tmp 36) (.const (.bool false)),none⟩,
 ⟨some 38,.mov (.tmp 37),none⟩,⟨some 39,.mov (.tmp 6),some (38,true)⟩,⟨some 40,.bin .eql .no (.tmp 39) (.const (.int .i64 0)),some (38,true)⟩,⟨some 41,.pick (.tmp 38) (.tmp 40) (.const (.bool false)),none⟩,
 ⟨some 42,.mov (.tmp 41),none⟩,⟨some 43,.mov (.tmp 8),some (42,true)⟩,⟨some 44,.bin .eql .no (.tmp 43) (.const (.int .i64 0)),some (42,true)⟩,⟨some 45,.pick (.tmp 42) (.tmp 44) (.const (.bool false)),none⟩,
 ⟨some 46,.mov (.tmp 45),none⟩,⟨some 47,.mov (.tmp 3),some (46,true)⟩,⟨some 48,.mov (.tmp 7),some (46,true)⟩,⟨some 49,.bin .eql .no (.tmp 47) (.tmp 48),some (46,true)⟩,⟨some 50,.pick (.tmp 46) (.tmp 49) (.const (.bool false)),none⟩,
 ⟨some 51,.mov (.tmp 50),none⟩,⟨some 52,.mov (.tmp 3),some (51,true)⟩,⟨some 53,.mov (.tmp 5),some (51,true)⟩,⟨some 54,.bin .add .no (.tmp 53) (.const (.int .i64 1)),some (51,true)⟩,⟨some 55,.bin .rem .no (.tmp 54) (.const (.int .i64 7)),some (51,true)⟩,
 ⟨some 56,.bin .eql .no (.tmp 52) (.tmp 55),some (51,true)⟩,⟨some 57,.pick (.tmp 51) (.tmp 56) (.const (.bool false)),none⟩,⟨some 58,.mov (.tmp 57),none⟩,⟨some 59,.mov (.tmp 3),some (58,true)⟩,⟨some 60,.bin .geq .no (.tmp 59) (.const (.int .i64 0)),some (58,true)⟩,
 ⟨some 61,.pick (.tmp 58) (.tmp 60) (.const (.bool false)),none⟩,⟨some 62,.mov (.tmp 61),none⟩,⟨some 63,.mov (.tmp 3),some (62,true)⟩,⟨some 64,.bin .lss .no (.tmp 63) (.const (.int .i64 7)),some (62,true)⟩,
 ⟨some 65,.pick (.tmp 62) (.tmp 64) (.const (.bool false)),none⟩,⟨some 2,.mov (.tmp 65),none⟩]) (.ret))))))) }

/-- posthorn/date.isShift -/
def F_date_isShift : ACFn := { nt := 14,results := [.tmp 2],body := (.seq (.region [⟨some 2,.mov (.const (.bool false)),none⟩]) (.seq (.region [⟨some 3,.mov (.tmp 0),none⟩,⟨some 4,.bin .geq .no (.tmp 3) (.const (.int .i64 (-86340))),none⟩,
 ⟨some 5,.mov (.tmp 4),none⟩,⟨some 6,.mov (.tmp 0),some (5,true)⟩,⟨some 7,.bin .leq .no (.tmp 6) (.const (.int .i64 86340)),some (5,true)⟩,⟨some 8,.pick (.tmp 5) (.tmp 7) (.const (.bool false)),none⟩,⟨some 9,.mov (.tmp 8),none⟩,
 ⟨some 10,.mov (.tmp 0),some (9,true)⟩,⟨some 11,.bin .rem .no (.tmp 10) (.const (.int .i64 60)),some (9,true)⟩,⟨some 12,.bin .eql .no (.tmp 11) (.const (.int .i64 0)),some (9,true)⟩,⟨some 13,.pick (.tmp 9) (.tmp 12) (.const (.bool false)),none⟩,
 ⟨some 2,.mov (.tmp 13),none⟩]) (.ret))) }

/-- posthorn/when.Civil -/
def F_when_Civil : ACFn := { nt := 49,results := [.tmp 2,.tmp 3,.tmp 4,.tmp 5],body := (.seq (.region [⟨some 2,.mov (.const (.int .i64 0)),none⟩,⟨some 3,.mov (.const (.int .i64 0)),none⟩,⟨some 4,.mov (.const (.int .i64 0)),none⟩,
 ⟨some 5,.mov (.const (.int .i64 0)),none⟩]) (.seq (.seq (.region [⟨some 9,.mov (.tmp 0),none⟩,⟨some 10,.bin .lss .no (.tmp 9) (.const (.int .i64 0)),none⟩,⟨some 11,.mov (.tmp 10),none⟩,⟨some 12,.mov (.tmp 0),some (11,false)⟩,
 ⟨some 13,.bin .gtr .no (.tmp 12) (.const (.int .i64 2932896)),some (11,false)⟩,⟨some 14,.pick (.tmp 11) (.const (.bool true)) (.tmp 13),none⟩]) (.cond (.tmp 14) (.seq (.region [⟨some 2,.mov (.const (.int .i64 0)),none⟩,
 ⟨some 3,.mov (.const (.int .i64 0)),none⟩,⟨some 4,.mov (.const (.int .i64 0)),none⟩,⟨some 5,.mov (.const (.int .i64 110)),none⟩]) (.ret)) (.skip))) (.seq (.region [⟨some 15,.mov (.tmp 0),none⟩,⟨some 16,.bin .quo .no (.tmp 15) (.const (.int .i64 366)),none⟩,
 ⟨some 17,.bin .add .no (.const (.int .i64 1970)) (.tmp 16),none⟩,⟨some 6,.mov (.tmp 17),none⟩]) (.seq (.block 0 (.loop (.seq (.seq (.region [⟨some 18,.mov (.tmp 6),none⟩,⟨some 19,.bin .lss .no (.tmp 18) (.const (.int .i64 9999)),none⟩,
 ⟨some 20,.mov (.tmp 19),none⟩,⟨some 21,.mov (.tmp 6),some (20,true)⟩,⟨some 22,.bin .add .no (.tmp 21) (.const (.int .i64 1)),some (20,true)⟩,⟨some 23,.call (.fn 306) [(.tmp 22)],some (20,true)⟩,⟨some 24,.mov (.tmp 0),some (20,true)⟩,
 ⟨some 25,.bin .leq .no (.tmp 23) (.tmp 24),some (20,true)⟩,⟨some 26,.pick (.tmp 20) (.tmp 25) (.const (.bool false)),none⟩]) (.cond (.tmp 26) (.skip) (.exit 0))) (.block 1 (.region [⟨some 27,.mov (.tmp 6),none⟩,
 ⟨some 28,.bin .add .no (.tmp 27) (.const (.int .i64 1)),none⟩,⟨some 6,.mov (.tmp 28),none⟩]))))) (.seq (.region [⟨some 29,.mov (.tmp 0),none⟩,⟨some 30,.mov (.tmp 6),none⟩,⟨some 31,.call (.fn 306) [(.tmp 30)],none⟩,
 ⟨some 32,.bin .sub .no (.tmp 29) (.tmp 31),none⟩,⟨some 7,.mov (.tmp 32),none⟩]) (.seq (.region [⟨some 8,.mov (.const (.int .i64 1)),none⟩]) (.seq (.block 2 (.loop (.seq (.seq (.region [⟨some 33,.mov (.tmp 7),none⟩,
 ⟨some 34,.mov (.tmp 6),none⟩,⟨some 35,.mov (.tmp 8),none⟩,⟨some 36,.call (.fn 307) [(.tmp 34),(.tmp 35)],none⟩,⟨some 37,.bin .geq .no (.tmp 33) (.tmp 36),none⟩]) (.cond (.tmp 37) (.skip) (.exit 2))) (.block 3 (.seq (.region [⟨some 38,.mov (.tmp 7),none⟩,
 ⟨some 39,.mov (.tmp 6),none⟩,⟨some 40,.mov (.tmp 8),none⟩,⟨some 41,.call (.fn 307) [(.tmp 39),(.tmp 40)],none⟩,⟨some 42,.bin .sub .no (.tmp 38) (.tmp 41),none⟩,⟨some 7,.mov (.tmp 42),none⟩]) (.region [⟨some 43,.mov (.tmp 8),none⟩,
 ⟨some 44,.bin .add .no (.tmp 43) (.const (.int .i64 1)),none⟩,⟨some 8,.mov (.tmp 44),none⟩])))))) (.seq (.region [⟨some 45,.mov (.tmp 6),none⟩,⟨some 46,.mov (.tmp 8),none⟩,⟨some 47,.mov (.tmp 7),none⟩,
 ⟨some 48,.bin .add .no (.tmp 47) (.const (.int .i64 1)),none⟩,⟨some 2,.mov (.tmp 45),none⟩,⟨some 3,.mov (.tmp 46),none⟩,⟨some 4,.mov (.tmp 48),none⟩,⟨some 5,.mov (.const (.int .i64 0)),none⟩]) (.ret))))))))) }

/-- posthorn/date.two -/
def F_date_two : ACFn := { nt := 14,results := [.tmp 2],body := (.seq (.region [⟨some 2,.mov (.const (.str [])),none⟩]) (.seq (.region [⟨some 3,.mov (.tmp 0),none⟩,⟨some 4,.bin .quo .no (.tmp 3) (.const (.int .i64 10)),none⟩,⟨some 5,.bin .rem .no (.tmp 4) (.const (.int .i64 10)),none⟩,
 ⟨some 6,.bin .add .no (.const (.int .i64 48)) (.tmp 5),none⟩,⟨some 7,.cInt .u8 (.tmp 6),none⟩,⟨some 8,.mov (.tmp 0),none⟩,⟨some 9,.bin .rem .no (.tmp 8) (.const (.int .i64 10)),none⟩,⟨some 10,.bin .add .no (.const (.int .i64 48)) (.tmp 9),none⟩,
 ⟨some 11,.cInt .u8 (.tmp 10),none⟩,⟨some 12,.lit8 2 [(0,(.tmp 7)),(1,(.tmp 11))],none⟩,⟨some 13,.cB2S false (.tmp 12),none⟩,⟨some 2,.mov (.tmp 13),none⟩]) (.ret))) }

/-- posthorn/date.dayName -/
def F_date_dayName : ACFn := { nt := 8,results := [.tmp 2],body := (.seq (.region [⟨some 2,.mov (.const (.str [])),none⟩]) (.seq (.region [⟨some 4,.build [.str [],.str [],.str [],.str [],.str [],.str [],.str []] [(0,1,(.const (.str [77,111,110]))),(1,1,(.const (.str [84,117,101]))),(2,1,(.const (.str [87,101,100]))),(3,1,(.const (.str [84,104,117]))),(4,1,(.const (.str [70,114,105]))),(5,1,(.const (.str [83,97,116]))),(6,1,(.const (.str [83,117,110])))],none⟩,
 ⟨some 3,.alloc [.str [],.str [],.str [],.str [],.str [],.str [],.str []],none⟩,⟨none,.store 7 (.tmp 3) (.tmp 4),none⟩]) (.seq (.region [⟨some 5,.mov (.tmp 0),none⟩,⟨some 6,.iaddrA 7 1 (.tmp 3) (.tmp 5),none⟩,
 ⟨some 7,.load false 1 (.tmp 6),none⟩,⟨some 2,.mov (.tmp 7),none⟩]) (.ret)))) }

/-- posthorn/date.monthName -/
def F_date_monthName : ACFn := { nt := 8,results := [.tmp 2],body := (.seq (.region [⟨some 2,.mov (.const (.str [])),none⟩]) (.seq (.region [⟨some 4,.build [.str [],.str [],.str [],.str [],.str [],.str [],.str [],.str [],.str [],.str [],.str [],.str [],.str []] [(0,1,(.const (.str []))),(1,1,(.const (.str [74,97,110]))),(2,1,(.const (.str [70,101,98]))),(3,1,(.const (.str [77,97,114]))),(4,1,(.const (.str [65,112,114]))),(5,1,(.const (.str [77,97,121]))),(6,1,(.const (.str [74,117,110]))),(7,1,(.const (.str [74,117,108]))),(8,1,(.const (.str [65,117,103]))),(9,1,(.const (.str [83,101,112]))),(10,1,(.const (.str [79,99,116]))),(11,1,(.const (.str [78,111,118]))),(12,1,(.const (.str [68,101,99])))],none⟩,
 ⟨some 3,.alloc [.str [],.str [],.str [],.str [],.str [],.str [],.str [],.str [],.str [],.str [],.str [],.str [],.str []],none⟩,⟨none,.store 13 (.tmp 3) (.tmp 4),none⟩]) (.seq (.region [⟨some 5,.mov (.tmp 0),none⟩,
 ⟨some 6,.iaddrA 13 1 (.tmp 3) (.tmp 5),none⟩,⟨some 7,.load false 1 (.tmp 6),none⟩,⟨some 2,.mov (.tmp 7),none⟩]) (.ret)))) }

/-- posthorn/posthornref20.shift -/
def F_posthornref20_shift : ACFn := { nt := 14,results := [.tmp 2],body := (.seq (.region [⟨some 2,.mov (.const (.bool false)),none⟩]) (.seq (.region [⟨some 3,.mov (.tmp 0),none⟩,⟨some 4,.bin .rem .no (.tmp 3) (.const (.int .i64 60)),none⟩,
 ⟨some 5,.bin .eql .no (.tmp 4) (.const (.int .i64 0)),none⟩,⟨some 6,.mov (.tmp 5),none⟩,⟨some 7,.mov (.tmp 0),some (6,true)⟩,⟨some 8,.bin .gtr .no (.tmp 7) (.const (.int .i64 (-86400))),some (6,true)⟩,
 ⟨some 9,.pick (.tmp 6) (.tmp 8) (.const (.bool false)),none⟩,⟨some 10,.mov (.tmp 9),none⟩,⟨some 11,.mov (.tmp 0),some (10,true)⟩,⟨some 12,.bin .lss .no (.tmp 11) (.const (.int .i64 86400)),some (10,true)⟩,
 ⟨some 13,.pick (.tmp 10) (.tmp 12) (.const (.bool false)),none⟩,⟨some 2,.mov (.tmp 13),none⟩]) (.ret))) }

/-- posthorn/posthornref12.Civil -/
def F_posthornref12_Civil : ACFn := { nt := 42,results := [.tmp 2,.tmp 3,.tmp 4,.tmp 5],body := (.seq (.region [⟨some 2,.mov (.const (.int .i64 0)),none⟩,⟨some 3,.mov (.const (.int .i64 0)),none⟩,⟨some 4,.mov (.const (.int .i64 0)),none⟩,
 ⟨some 5,.mov (.const (.int .i64 0)),none⟩]) (.seq (.seq (.region [⟨some 9,.mov (.tmp 0),none⟩,⟨some 10,.bin .lss .no (.tmp 9) (.const (.int .i64 0)),none⟩,⟨some 11,.mov (.tmp 10),none⟩,⟨some 12,.mov (.tmp 0),some (11,false)⟩,
 ⟨some 13,.bin .gtr .no (.tmp 12) (.const (.int .i64 2932896)),some (11,false)⟩,⟨some 14,.pick (.tmp 11) (.const (.bool true)) (.tmp 13),none⟩]) (.cond (.tmp 14) (.seq (.region [⟨some 2,.mov (.const (.int .i64 0)),none⟩,
 ⟨some 3,.mov (.const (.int .i64 0)),none⟩,⟨some 4,.mov (.const (.int .i64 0)),none⟩,⟨some 5,.mov (.const (.int .i64 110)),none⟩]) (.ret)) (.skip))) (.seq (.region [⟨some 15,.mov (.tmp 0),none⟩,⟨some 6,.mov (.tmp 15),none⟩]) (.seq (.region [⟨some 7,.mov (.const (.int .i64 1970)),none⟩,
 ⟨some 8,.mov (.const (.int .i64 1)),none⟩]) (.seq (.block 0 (.loop (.seq (.seq (.region [⟨some 16,.mov (.tmp 6),none⟩,⟨some 17,.mov (.tmp 7),none⟩,⟨some 18,.call (.fn 308) [(.tmp 17)],none⟩,⟨some 19,.bin .geq .no (.tmp 16) (.tmp 18),none⟩]) (.cond (.tmp 19) (.skip) (.exit 0))) (.block 1 (.seq (.region [⟨some 20,.mov (.tmp 6),none⟩,
 ⟨some 21,.mov (.tmp 7),none⟩,⟨some 22,.call (.fn 308) [(.tmp 21)],none⟩,⟨some 23,.bin .sub .no (.tmp 20) (.tmp 22),none⟩,⟨some 6,.mov (.tmp 23),none⟩]) (.region [⟨some 24,.mov (.tmp 7),none⟩,⟨some 25,.bin .add .no (.tmp 24) (.const (.int .i64 1)),none⟩,
 ⟨some 7,.mov (.tmp 25),none⟩])))))) (.seq (.block 2 (.loop (.seq (.seq (.region [⟨some 26,.mov (.tmp 6),none⟩,⟨some 27,.mov (.tmp 7),none⟩,⟨some 28,.mov (.tmp 8),none⟩,⟨some 29,.call (.fn 309) [(.tmp 27),(.tmp 28)],none⟩,
 ⟨some 30,.bin .geq .no (.tmp 26) (.tmp 29),none⟩]) (.cond (.tmp 30) (.skip) (.exit 2))) (.block 3 (.seq (.region [⟨some 31,.mov (.tmp 6),none⟩,⟨some 32,.mov (.tmp 7),none⟩,⟨some 33,.mov (.tmp 8),none⟩,
 ⟨some 34,.call (.fn 309) [(.tmp 32),(.tmp 33)],none⟩,⟨some 35,.bin .sub .no (.tmp 31) (.tmp 34),none⟩,⟨some 6,.mov (.tmp 35),none⟩]) (.region [⟨some 36,.mov (.tmp 8),none⟩,⟨some 37,.bin .add .no (.tmp 36) (.const (.int .i64 1)),none⟩,
 ⟨some 8,.mov (.tmp 37),none⟩])))))) (.seq (.region [⟨some 38,.mov (.tmp 7),none⟩,⟨some 39,.mov (.tmp 8),none⟩,⟨some 40,.mov (.tmp 6),none⟩,⟨some 41,.bin .add .no (.tmp 40) (.const (.int .i64 1)),none⟩,
 ⟨some 2,.mov (.tmp 38),none⟩,⟨some 3,.mov (.tmp 39),none⟩,⟨some 4,.mov (.tmp 41),none⟩,⟨some 5,.mov (.const (.int .i64 0)),none⟩]) (.ret)))))))) }

/-- posthorn/posthornref20.Day -/
def F_posthornref20_Day : ACFn := { nt := 9,results := [.tmp 2],body := (.seq (.region [⟨some 2,.mov (.const (.str [])),none⟩]) (.seq (.region [⟨some 3,.mov (.tmp 0),none⟩,⟨some 4,.bin .mul .no (.const (.int .i64 3)) (.tmp 3),none⟩,⟨some 5,.mov (.tmp 0),none⟩,
 ⟨some 6,.bin .mul .no (.const (.int .i64 3)) (.tmp 5),none⟩,⟨some 7,.bin .add .no (.tmp 6) (.const (.int .i64 3)),none⟩,⟨some 8,.slc 0 (.const (.str [77,111,110,84,117,101,87,101,100,84,104,117,70,114,105,83,97,116,83,117,110])) (some (.tmp 4)) (some (.tmp 7)) none,none⟩,
 ⟨some 2,.mov (.tmp 8),none⟩]) (.ret))) }

/-- posthorn/posthornref12.Digits -/
def F_posthornref12_Digits : ACFn := { nt := 23,results := [.tmp 4],body := (.seq (.region [⟨some 4,.mov (.const (.str [])),none⟩]) (.seq (.region [⟨some 5,.mov (.const (.str [])),none⟩]) (.seq (.seq (.region [⟨some 6,.mov (.const (.int .i64 0)),none⟩]) (.block 0 (.loop (.seq (.seq (.region [⟨some 7,.mov (.tmp 6),none⟩,
 ⟨some 8,.mov (.tmp 1),none⟩,⟨some 9,.bin .lss .no (.tmp 7) (.tmp 8),none⟩]) (.cond (.tmp 9) (.skip) (.exit 0))) (.seq (.block 1 (.seq (.region [⟨some 12,.mov (.tmp 0),none⟩,⟨some 13,.bin .rem .no (.tmp 12) (.const (.int .i64 10)),none⟩,
 ⟨some 14,.bin .add .no (.const (.int .i64 48)) (.tmp 13),none⟩,⟨some 15,.cInt .u8 (.tmp 14),none⟩,⟨some 16,.lit8 1 [(0,(.tmp 15))],none⟩,⟨some 17,.cB2S false (.tmp 16),none⟩,⟨some 18,.mov (.tmp 5),none⟩,
 ⟨some 19,.bin .add .no (.tmp 17) (.tmp 18),none⟩,⟨some 5,.mov (.tmp 19),none⟩]) (.region [⟨some 20,.mov (.tmp 0),none⟩,⟨some 21,.bin .quo .no (.tmp 20) (.const (.int .i64 10)),none⟩,⟨some 0,.mov (.tmp 21),none⟩]))) (.region [⟨some 10,.mov (.tmp 6),none⟩,
 ⟨some 11,.bin .add .no (.tmp 10) (.const (.int .i64 1)),none⟩,⟨some 6,.mov (.tmp 11),none⟩])))))) (.seq (.region [⟨some 22,.mov (.tmp 5),none⟩,⟨some 4,.mov (.tmp 22),none⟩]) (.ret))))) }

/-- posthorn/posthornref20.Month -/
def F_posthornref20_Month : ACFn := { nt := 9,results := [.tmp 2],body := (.seq (.region [⟨some 2,.mov (.const (.str [])),none⟩]) (.seq (.region [⟨some 3,.mov (.tmp 0),none⟩,⟨some 4,.bin .mul .no (.const (.int .i64 3)) (.tmp 3),none⟩,⟨some 5,.bin .sub .no (.tmp 4) (.const (.int .i64 3)),none⟩,
 ⟨some 6,.mov (.tmp 0),none⟩,⟨some 7,.bin .mul .no (.const (.int .i64 3)) (.tmp 6),none⟩,⟨some 8,.slc 0 (.const (.str [74,97,110,70,101,98,77,97,114,65,112,114,77,97,121,74,117,110,74,117,108,65,117,103,83,101,112,79,99,116,78,111,118,68,101,99])) (some (.tmp 5)) (some (.tmp 7)) none,none⟩,
 ⟨some 2,.mov (.tmp 8),none⟩]) (.ret))) }

/-- posthorn/date.bare -/
def F_date_bare : ACFn := { nt := 29,results := [.tmp 2],body := (.seq (.region [⟨some 2,.mov (.const (.str [])),none⟩]) (.seq (.region [⟨some 3,.alloc [.bslot,.nils],none⟩]) (.block 0 (.loop (.block 1 (.seq (.region [⟨some 8,.mov (.tmp 0),none⟩,
 ⟨some 9,.call (.fn 128) [(.tmp 8),(.const (.str [40]))],none⟩,⟨some 7,.mov (.tmp 9),none⟩,⟨some 10,.ext 0 (.tmp 7),none⟩,⟨some 11,.ext 1 (.tmp 7),none⟩,⟨some 12,.ext 2 (.tmp 7),none⟩,⟨some 4,.mov (.tmp 10),none⟩,
 ⟨some 5,.mov (.tmp 11),none⟩,⟨some 6,.mov (.tmp 12),none⟩]) (.seq (.region [⟨some 13,.mov (.tmp 4),none⟩,⟨some 14,.call (.fn 58) [(.tmp 3),(.tmp 13)],none⟩]) (.seq (.seq (.region [⟨some 15,.mov (.tmp 6),none⟩,
 ⟨some 16,.un .not (.tmp 15),none⟩]) (.cond (.tmp 16) (.seq (.region [⟨some 17,.call (.fn 59) [(.tmp 3)],none⟩,⟨some 2,.mov (.tmp 17),none⟩]) (.ret)) (.skip))) (.seq (.region [⟨some 19,.mov (.tmp 5),none⟩,
 ⟨some 20,.call (.fn 128) [(.tmp 19),(.const (.str [41]))],none⟩,⟨some 18,.mov (.tmp 20),none⟩,⟨some 21,.ext 0 (.tmp 18),none⟩,⟨some 22,.ext 1 (.tmp 18),none⟩,⟨some 23,.ext 2 (.tmp 18),none⟩,⟨some 0,.mov (.tmp 22),none⟩,
 ⟨some 6,.mov (.tmp 23),none⟩]) (.seq (.seq (.region [⟨some 24,.mov (.tmp 6),none⟩,⟨some 25,.un .not (.tmp 24),none⟩]) (.cond (.tmp 25) (.seq (.region [⟨some 26,.call (.fn 59) [(.tmp 3)],none⟩,⟨some 27,.bin .add .no (.tmp 26) (.const (.str [40])),none⟩,
 ⟨some 2,.mov (.tmp 27),none⟩]) (.ret)) (.skip))) (.region [⟨some 28,.call (.fn 57) [(.tmp 3),(.const (.b8 32))],none⟩]))))))))))) }

/-- posthorn/date.words -/
def F_date_words : ACFn := { nt := 4,results := [.tmp 2],body := (.seq (.region [⟨some 1,.box (.tmp 0),none⟩,⟨some 2,.mov (.const (.nilf)),none⟩]) (.seq (.region [⟨some 3,.mkfn 310 [(.tmp 1)],none⟩,⟨some 2,.mov (.tmp 3),none⟩]) (.ret))) }

/-- posthorn/date.weekday -/
def F_date_weekday : ACFn := { nt := 58,results := [.tmp 2,.tmp 3],body := (.seq (.region [⟨some 2,.mov (.const (.int .i64 0)),none⟩,⟨some 3,.mov (.const (.nils)),none⟩]) (.seq (.seq (.region [⟨some 8,.mov (.tmp 0),none⟩,⟨some 9,.len false (.tmp 8),none⟩,
 ⟨some 10,.bin .eql .no (.tmp 9) (.const (.int .i64 0)),none⟩]) (.cond (.tmp 10) (.seq (.region [⟨some 2,.mov (.const (.int .i64 (-2))),none⟩,⟨some 3,.mov (.const (.nils)),none⟩]) (.ret)) (.skip))) (.seq (.region [⟨some 12,.mov (.tmp 0),none⟩,
 ⟨some 13,.iaddr 1 (.tmp 12) (.const (.int .i64 0)),none⟩,⟨some 14,.load false 1 (.tmp 13),none⟩,⟨some 15,.call (.fn 128) [(.tmp 14),(.const (.str [44]))],none⟩,⟨some 11,.mov (.tmp 15),none⟩,⟨some 16,.ext 0 (.tmp 11),none⟩,
 ⟨some 17,.ext 1 (.tmp 11),none⟩,⟨some 18,.ext 2 (.tmp 11),none⟩,⟨some 4,.mov (.tmp 16),none⟩,⟨some 5,.mov (.tmp 17),none⟩,⟨some 6,.mov (.tmp 18),none⟩]) (.seq (.seq (.region [⟨some 19,.mov (.tmp 6),none⟩,
 ⟨some 20,.un .not (.tmp 19),none⟩,⟨some 21,.mov (.tmp 20),none⟩,⟨some 22,.mov (.tmp 0),some (21,true)⟩,⟨some 23,.len false (.tmp 22),some (21,true)⟩,⟨some 24,.bin .gtr .no (.tmp 23) (.const (.int .i64 1)),some (21,true)⟩,
 ⟨some 25,.pick (.tmp 21) (.tmp 24) (.const (.bool false)),none⟩,⟨some 26,.mov (.tmp 25),none⟩,⟨some 27,.mov (.tmp 0),some (26,true)⟩,⟨some 28,.iaddr 1 (.tmp 27) (.const (.int .i64 1)),some (26,true)⟩,⟨some 29,.load false 1 (.tmp 28),some (26,true)⟩,
 ⟨some 30,.call (.fn 72) [(.tmp 29),(.const (.str [44]))],some (26,true)⟩,⟨some 31,.pick (.tmp 26) (.tmp 30) (.const (.bool false)),none⟩]) (.cond (.tmp 31) (.seq (.region [⟨some 32,.mov (.tmp 0),none⟩,
 ⟨some 33,.iaddr 1 (.tmp 32) (.const (.int .i64 0)),none⟩,⟨some 34,.load false 1 (.tmp 33),none⟩,⟨some 35,.mov (.tmp 0),none⟩,⟨some 36,.iaddr 1 (.tmp 35) (.const (.int .i64 1)),none⟩,⟨some 37,.load false 1 (.tmp 36),none⟩,
 ⟨some 38,.slc 0 (.tmp 37) (some (.const (.int .i64 1))) none none,none⟩,⟨some 4,.mov (.tmp 34),none⟩,⟨some 5,.mov (.tmp 38),none⟩,⟨some 6,.mov (.const (.bool true)),none⟩]) (.region [⟨some 39,.mov (.tmp 0),none⟩,
 ⟨some 40,.slc 1 (.tmp 39) (some (.const (.int .i64 1))) none none,none⟩,⟨some 0,.mov (.tmp 40),none⟩])) (.skip))) (.seq (.seq (.region [⟨some 41,.mov (.tmp 6),none⟩,⟨some 42,.un .not (.tmp 41),none⟩]) (.cond (.tmp 42) (.seq (.region [⟨some 43,.mov (.tmp 0),none⟩,
 ⟨some 2,.mov (.const (.int .i64 (-1))),none⟩,⟨some 3,.mov (.tmp 43),none⟩]) (.ret)) (.skip))) (.seq (.region [⟨some 44,.mov (.tmp 4),none⟩,⟨some 45,.call (.fn 288) [(.tmp 44),(.const (.int .i64 7)),(.fn 277)],none⟩,
 ⟨some 7,.mov (.tmp 45),none⟩]) (.seq (.seq (.region [⟨some 46,.mov (.tmp 7),none⟩,⟨some 47,.bin .lss .no (.tmp 46) (.const (.int .i64 0)),none⟩]) (.cond (.tmp 47) (.seq (.region [⟨some 2,.mov (.const (.int .i64 (-2))),none⟩,
 ⟨some 3,.mov (.const (.nils)),none⟩]) (.ret)) (.skip))) (.seq (.region [⟨some 48,.mov (.tmp 0),none⟩,⟨some 49,.slc 1 (.tmp 48) (some (.const (.int .i64 1))) none none,none⟩,⟨some 0,.mov (.tmp 49),none⟩]) (.seq (.seq (.region [⟨some 50,.mov (.tmp 5),none⟩,
 ⟨some 51,.bin .neq .no (.tmp 50) (.const (.str [])),none⟩]) (.cond (.tmp 51) (.region [⟨some 52,.mov (.tmp 5),none⟩,⟨some 53,.lit 1 (.str []) 1 [(0,(.tmp 52))],none⟩,⟨some 54,.mov (.tmp 0),none⟩,⟨some 55,.app false 1 (.tmp 53) (.tmp 54),none⟩,
 ⟨some 0,.mov (.tmp 55),none⟩]) (.skip))) (.seq (.region [⟨some 56,.mov (.tmp 7),none⟩,⟨some 57,.mov (.tmp 0),none⟩,⟨some 2,.mov (.tmp 56),none⟩,⟨some 3,.mov (.tmp 57),none⟩]) (.ret))))))))))) }

/-- posthorn/date.digits -/
def F_date_digits : ACFn := { nt := 41,results := [.tmp 6],body := (.seq (.region [⟨some 6,.mov (.const (.int .i64 0)),none⟩]) (.seq (.region [⟨some 7,.mov (.const (.int .i64 0)),none⟩]) (.seq (.seq (.region [⟨some 9,.mov (.tmp 0),none⟩,
 ⟨some 10,.len true (.tmp 9),none⟩,⟨some 11,.mov (.const (.int .i64 0)),none⟩]) (.block 0 (.loop (.seq (.region [⟨some 12,.bin .lss .no (.tmp 11) (.tmp 10),none⟩]) (.seq (.cond (.tmp 12) (.skip) (.exit 0)) (.seq (.block 1 (.seq (.region [⟨some 13,.mov (.tmp 11),none⟩,
 ⟨some 8,.mov (.tmp 13),none⟩]) (.seq (.seq (.region [⟨some 14,.mov (.tmp 0),none⟩,⟨some 15,.mov (.tmp 8),none⟩,⟨some 16,.idxS (.tmp 14) (.tmp 15),none⟩,⟨some 17,.bin .lss .no (.tmp 16) (.const (.b8 48)),none⟩,
 ⟨some 18,.mov (.tmp 17),none⟩,⟨some 19,.mov (.tmp 0),some (18,false)⟩,⟨some 20,.mov (.tmp 8),some (18,false)⟩,⟨some 21,.idxS (.tmp 19) (.tmp 20),some (18,false)⟩,⟨some 22,.bin .gtr .no (.tmp 21) (.const (.b8 57)),some (18,false)⟩,
 ⟨some 23,.pick (.tmp 18) (.const (.bool true)) (.tmp 22),none⟩]) (.cond (.tmp 23) (.seq (.region [⟨some 6,.mov (.const (.int .i64 (-1))),none⟩]) (.ret)) (.skip))) (.seq (.region [⟨some 24,.mov (.tmp 7),none⟩,
 ⟨some 25,.bin .mul .no (.const (.int .i64 10)) (.tmp 24),none⟩,⟨some 26,.mov (.tmp 0),none⟩,⟨some 27,.mov (.tmp 8),none⟩,⟨some 28,.idxS (.tmp 26) (.tmp 27),none⟩,⟨some 29,.bin .sub .no (.tmp 28) (.const (.b8 48)),none⟩,
 ⟨some 30,.cInt .i64 (.tmp 29),none⟩,⟨some 31,.bin .add .no (.tmp 25) (.tmp 30),none⟩,⟨some 7,.mov (.tmp 31),none⟩]) (.seq (.region [⟨some 32,.mov (.tmp 8),none⟩,⟨some 33,.mov (.tmp 2),none⟩,⟨some 34,.bin .geq .no (.tmp 32) (.tmp 33),none⟩]) (.cond (.tmp 34) (.seq (.region [⟨some 6,.mov (.const (.int .i64 (-1))),none⟩]) (.ret)) (.skip))))))) (.region [⟨some 35,.bin .add .no (.tmp 11) (.const (.int .i64 1)),none⟩,
 ⟨some 11,.mov (.tmp 35),none⟩]))))))) (.seq (.seq (.region [⟨some 36,.mov (.tmp 0),none⟩,⟨some 37,.len true (.tmp 36),none⟩,⟨some 38,.mov (.tmp 1),none⟩,⟨some 39,.bin .lss .no (.tmp 37) (.tmp 38),none⟩]) (.cond (.tmp 39) (.seq (.region [⟨some 6,.mov (.const (.int .i64 (-1))),none⟩]) (.ret)) (.skip))) (.seq (.region [⟨some 40,.mov (.tmp 7),none⟩,
 ⟨some 6,.mov (.tmp 40),none⟩]) (.ret)))))) }

/-- posthorn/date.name -/
def F_date_name : ACFn := { nt := 25,results := [.tmp 6],body := (.seq (.region [⟨some 6,.mov (.const (.int .i64 0)),none⟩]) (.seq (.seq (.region [⟨some 8,.mov (.tmp 1),none⟩,⟨some 9,.mov (.const (.int .i64 0)),none⟩]) (.block 0 (.loop (.seq (.region [⟨some 10,.bin .lss .no (.tmp 9) (.tmp 8),none⟩]) (.seq (.cond (.tmp 10) (.skip) (.exit 0)) (.seq (.block 1 (.seq (.region [⟨some 11,.mov (.tmp 9),none⟩,
 ⟨some 7,.mov (.tmp 11),none⟩]) (.seq (.region [⟨some 12,.mov (.tmp 2),none⟩,⟨some 13,.mov (.tmp 7),none⟩,⟨some 14,.call (.tmp 12) [(.tmp 13)],none⟩,⟨some 15,.call (.fn 311) [(.tmp 14)],none⟩,⟨some 16,.mov (.tmp 0),none⟩,
 ⟨some 17,.call (.fn 311) [(.tmp 16)],none⟩,⟨some 18,.bin .eql .no (.tmp 15) (.tmp 17),none⟩,⟨some 19,.mov (.tmp 18),none⟩,⟨some 20,.mov (.tmp 0),some (19,true)⟩,⟨some 21,.bin .neq .no (.tmp 20) (.const (.str [])),some (19,true)⟩,
 ⟨some 22,.pick (.tmp 19) (.tmp 21) (.const (.bool false)),none⟩]) (.cond (.tmp 22) (.seq (.region [⟨some 23,.mov (.tmp 7),none⟩,⟨some 6,.mov (.tmp 23),none⟩]) (.ret)) (.skip))))) (.region [⟨some 24,.bin .add .no (.tmp 9) (.const (.int .i64 1)),none⟩,
 ⟨some 9,.mov (.tmp 24),none⟩]))))))) (.seq (.region [⟨some 6,.mov (.const (.int .i64 (-1))),none⟩]) (.ret)))) }

/-- posthorn/date.year -/
def F_date_year : ACFn := { nt := 21,results := [.tmp 2],body := (.seq (.region [⟨some 2,.mov (.const (.int .i64 0)),none⟩]) (.seq (.seq (.region [⟨some 4,.mov (.tmp 0),none⟩,⟨some 5,.len true (.tmp 4),none⟩,⟨some 6,.bin .eql .no (.tmp 5) (.const (.int .i64 4)),none⟩]) (.cond (.tmp 6) (.seq (.region [⟨some 7,.mov (.tmp 0),none⟩,
 ⟨some 8,.call (.fn 287) [(.tmp 7),(.const (.int .i64 4)),(.const (.int .i64 4))],none⟩,⟨some 2,.mov (.tmp 8),none⟩]) (.ret)) (.skip))) (.seq (.region [⟨some 9,.mov (.tmp 0),none⟩,⟨some 10,.call (.fn 287) [(.tmp 9),(.const (.int .i64 2)),(.const (.int .i64 2))],none⟩,
 ⟨some 3,.mov (.tmp 10),none⟩]) (.seq (.block 0 (.seq (.region [⟨some 12,.mov (.tmp 3),none⟩,⟨some 13,.bin .lss .no (.tmp 12) (.const (.int .i64 0)),none⟩,⟨some 11,.mov (.tmp 13),none⟩]) (.cond (.tmp 11) (.seq (.region [⟨some 2,.mov (.const (.int .i64 (-1))),none⟩]) (.ret)) (.seq (.region [⟨some 15,.mov (.tmp 3),none⟩,
 ⟨some 16,.bin .lss .no (.tmp 15) (.const (.int .i64 50)),none⟩,⟨some 14,.mov (.tmp 16),none⟩]) (.cond (.tmp 14) (.seq (.region [⟨some 17,.mov (.tmp 3),none⟩,⟨some 18,.bin .add .no (.const (.int .i64 2000)) (.tmp 17),none⟩,
 ⟨some 2,.mov (.tmp 18),none⟩]) (.ret)) (.skip)))))) (.seq (.region [⟨some 19,.mov (.tmp 3),none⟩,⟨some 20,.bin .add .no (.const (.int .i64 1900)) (.tmp 19),none⟩,⟨some 2,.mov (.tmp 20),none⟩]) (.ret)))))) }

/-- posthorn/date.clock -/
def F_date_clock : ACFn := { nt := 62,results := [.tmp 2],body := (.seq (.region [⟨some 2,.mov (.const (.int .i64 0)),none⟩]) (.seq (.region [⟨some 7,.mov (.tmp 0),none⟩,⟨some 8,.call (.fn 133) [(.tmp 7),(.const (.str [58]))],none⟩,
 ⟨some 3,.mov (.tmp 8),none⟩]) (.seq (.seq (.region [⟨some 9,.mov (.tmp 3),none⟩,⟨some 10,.len false (.tmp 9),none⟩,⟨some 11,.bin .lss .no (.tmp 10) (.const (.int .i64 2)),none⟩,⟨some 12,.mov (.tmp 11),none⟩,
 ⟨some 13,.mov (.tmp 3),some (12,false)⟩,⟨some 14,.len false (.tmp 13),some (12,false)⟩,⟨some 15,.bin .gtr .no (.tmp 14) (.const (.int .i64 3)),some (12,false)⟩,⟨some 16,.pick (.tmp 12) (.const (.bool true)) (.tmp 15),none⟩]) (.cond (.tmp 16) (.seq (.region [⟨some 2,.mov (.const (.int .i64 (-1))),none⟩]) (.ret)) (.skip))) (.seq (.region [⟨some 17,.mov (.tmp 3),none⟩,
 ⟨some 18,.iaddr 1 (.tmp 17) (.const (.int .i64 0)),none⟩,⟨some 19,.loadc false 1 (.tmp 18),none⟩,⟨some 20,.call (.fn 287) [(.tmp 19),(.const (.int .i64 2)),(.const (.int .i64 2))],none⟩,⟨some 21,.mov (.tmp 3),none⟩,
 ⟨some 22,.iaddr 1 (.tmp 21) (.const (.int .i64 1)),none⟩,⟨some 23,.loadc false 1 (.tmp 22),none⟩,⟨some 24,.call (.fn 287) [(.tmp 23),(.const (.int .i64 2)),(.const (.int .i64 2))],none⟩,⟨some 4,.mov (.tmp 20),none⟩,
 ⟨some 5,.mov (.tmp 24),none⟩,⟨some 6,.mov (.const (.int .i64 0)),none⟩]) (.seq (.seq (.region [⟨some 25,.mov (.tmp 3),none⟩,⟨some 26,.len false (.tmp 25),none⟩,⟨some 27,.bin .eql .no (.tmp 26) (.const (.int .i64 3)),none⟩]) (.cond (.tmp 27) (.region [⟨some 28,.mov (.tmp 3),none⟩,
 ⟨some 29,.iaddr 1 (.tmp 28) (.const (.int .i64 2)),none⟩,⟨some 30,.loadc false 1 (.tmp 29),none⟩,⟨some 31,.call (.fn 287) [(.tmp 30),(.const (.int .i64 2)),(.const (.int .i64 2))],none⟩,⟨some 6,.mov (.tmp 31),none⟩]) (.skip))) (.seq (.seq (.region [⟨some 32,.mov (.tmp 4),none⟩,
 ⟨some 33,.bin .lss .no (.tmp 32) (.const (.int .i64 0)),none⟩,⟨some 34,.mov (.tmp 33),none⟩,⟨some 35,.mov (.tmp 4),some (34,false)⟩,⟨some 36,.bin .gtr .no (.tmp 35) (.const (.int .i64 23)),some (34,false)⟩,
 ⟨some 37,.pick (.tmp 34) (.const (.bool true)) (.tmp 36),none⟩,⟨some 38,.mov (.tmp 37),none⟩,⟨some 39,.mov (.tmp 5),some (38,false)⟩,⟨some 40,.bin .lss .no (.tmp 39) (.const (.int .i64 0)),some (38,false)⟩,
 ⟨some 41,.pick (.tmp 38) (.const (.bool true)) (.tmp 40),none⟩,⟨some 42,.mov (.tmp 41),none⟩,⟨some 43,.mov (.tmp 5),some (42,false)⟩,⟨some 44,.bin .gtr .no (.tmp 43) (.const (.int .i64 59)),some (42,false)⟩,
 ⟨some 45,.pick (.tmp 42) (.const (.bool true)) (.tmp 44),none⟩,⟨some 46,.mov (.tmp 45),none⟩,⟨some 47,.mov (.tmp 6),some (46,false)⟩,⟨some 48,.bin .lss .no (.tmp 47) (.const (.int .i64 0)),some (46,false)⟩,
 ⟨some 49,.pick (.tmp 46) (.const (.bool true)) (.tmp 48),none⟩,⟨some 50,.mov (.tmp 49),none⟩,⟨some 51,.mov (.tmp 6),some (50,false)⟩,⟨some 52,.bin .gtr .no (.tmp 51) (.const (.int .i64 60)),some (50,false)⟩,
 ⟨some 53,.pick (.tmp 50) (.const (.bool true)) (.tmp 52),none⟩]) (.cond (.tmp 53) (.seq (.region [⟨some 2,.mov (.const (.int .i64 (-1))),none⟩]) (.ret)) (.skip))) (.seq (.region [⟨some 54,.mov (.tmp 4),none⟩,
 ⟨some 55,.bin .mul .no (.tmp 54) (.const (.int .i64 3600)),none⟩,⟨some 56,.mov (.tmp 5),none⟩,⟨some 57,.bin .mul .no (.tmp 56) (.const (.int .i64 60)),none⟩,⟨some 58,.bin .add .no (.tmp 55) (.tmp 57),none⟩,
 ⟨some 59,.mov (.tmp 6),none⟩,⟨some 60,.mnmx false [(.tmp 59),(.const (.int .i64 59))],none⟩,⟨some 61,.bin .add .no (.tmp 58) (.tmp 60),none⟩,⟨some 2,.mov (.tmp 61),none⟩]) (.ret)))))))) }

/-- posthorn/date.zone -/
def F_date_zone : ACFn := { nt := 64,results := [.tmp 2,.tmp 3],body := (.seq (.region [⟨some 2,.mov (.const (.int .i64 0)),none⟩,⟨some 3,.mov (.const (.bool false)),none⟩]) (.seq (.seq (.region [⟨some 7,.mov (.tmp 0),none⟩,⟨some 8,.call (.fn 311) [(.tmp 7)],none⟩]) (.block 0 (.seq (.seq (.region [⟨some 10,.bin .eql .no (.tmp 8) (.const (.str [117,116])),none⟩,
 ⟨some 9,.mov (.tmp 10),none⟩]) (.cond (.tmp 9) (.skip) (.seq (.region [⟨some 11,.bin .eql .no (.tmp 8) (.const (.str [103,109,116])),none⟩,⟨some 9,.mov (.tmp 11),none⟩]) (.cond (.tmp 9) (.skip) (.seq (.region [⟨some 12,.bin .eql .no (.tmp 8) (.const (.str [122])),none⟩,
 ⟨some 9,.mov (.tmp 12),none⟩]) (.cond (.tmp 9) (.skip) (.region [⟨some 13,.bin .eql .no (.tmp 8) (.const (.str [])),none⟩,⟨some 9,.mov (.tmp 13),none⟩]))))))) (.cond (.tmp 9) (.seq (.region [⟨some 2,.mov (.const (.int .i64 0)),none⟩,
 ⟨some 3,.mov (.const (.bool true)),none⟩]) (.ret)) (.seq (.region [⟨some 15,.bin .eql .no (.tmp 8) (.const (.str [101,100,116])),none⟩,⟨some 14,.mov (.tmp 15),none⟩]) (.cond (.tmp 14) (.seq (.region [⟨some 2,.mov (.const (.int .i64 (-14400))),none⟩,
 ⟨some 3,.mov (.const (.bool true)),none⟩]) (.ret)) (.seq (.seq (.region [⟨some 17,.bin .eql .no (.tmp 8) (.const (.str [101,115,116])),none⟩,⟨some 16,.mov (.tmp 17),none⟩]) (.cond (.tmp 16) (.skip) (.region [⟨some 18,.bin .eql .no (.tmp 8) (.const (.str [99,100,116])),none⟩,
 ⟨some 16,.mov (.tmp 18),none⟩]))) (.cond (.tmp 16) (.seq (.region [⟨some 2,.mov (.const (.int .i64 (-18000))),none⟩,⟨some 3,.mov (.const (.bool true)),none⟩]) (.ret)) (.seq (.seq (.region [⟨some 20,.bin .eql .no (.tmp 8) (.const (.str [99,115,116])),none⟩,
 ⟨some 19,.mov (.tmp 20),none⟩]) (.cond (.tmp 19) (.skip) (.region [⟨some 21,.bin .eql .no (.tmp 8) (.const (.str [109,100,116])),none⟩,⟨some 19,.mov (.tmp 21),none⟩]))) (.cond (.tmp 19) (.seq (.region [⟨some 2,.mov (.const (.int .i64 (-21600))),none⟩,
 ⟨some 3,.mov (.const (.bool true)),none⟩]) (.ret)) (.seq (.seq (.region [⟨some 23,.bin .eql .no (.tmp 8) (.const (.str [109,115,116])),none⟩,⟨some 22,.mov (.tmp 23),none⟩]) (.cond (.tmp 22) (.skip) (.region [⟨some 24,.bin .eql .no (.tmp 8) (.const (.str [112,100,116])),none⟩,
 ⟨some 22,.mov (.tmp 24),none⟩]))) (.cond (.tmp 22) (.seq (.region [⟨some 2,.mov (.const (.int .i64 (-25200))),none⟩,⟨some 3,.mov (.const (.bool true)),none⟩]) (.ret)) (.seq (.region [⟨some 26,.bin .eql .no (.tmp 8) (.const (.str [112,115,116])),none⟩,
 ⟨some 25,.mov (.tmp 26),none⟩]) (.cond (.tmp 25) (.seq (.region [⟨some 2,.mov (.const (.int .i64 (-28800))),none⟩,⟨some 3,.mov (.const (.bool true)),none⟩]) (.ret)) (.skip))))))))))))))) (.seq (.seq (.region [⟨some 27,.mov (.tmp 0),none⟩,
 ⟨some 28,.idxS (.tmp 27) (.const (.int .i64 0)),none⟩,⟨some 29,.bin .neq .no (.tmp 28) (.const (.b8 43)),none⟩,⟨some 30,.mov (.tmp 29),none⟩,⟨some 31,.mov (.tmp 0),some (30,true)⟩,⟨some 32,.idxS (.tmp 31) (.const (.int .i64 0)),some (30,true)⟩,
 ⟨some 33,.bin .neq .no (.tmp 32) (.const (.b8 45)),some (30,true)⟩,⟨some 34,.pick (.tmp 30) (.tmp 33) (.const (.bool false)),none⟩,⟨some 35,.mov (.tmp 34),none⟩,⟨some 36,.mov (.tmp 0),some (35,false)⟩,
 ⟨some 37,.slc 0 (.tmp 36) (some (.const (.int .i64 1))) none none,some (35,false)⟩,⟨some 38,.call (.fn 287) [(.tmp 37),(.const (.int .i64 4)),(.const (.int .i64 4))],some (35,false)⟩,⟨some 39,.bin .lss .no (.tmp 38) (.const (.int .i64 0)),some (35,false)⟩,
 ⟨some 40,.pick (.tmp 35) (.const (.bool true)) (.tmp 39),none⟩]) (.cond (.tmp 40) (.seq (.region [⟨some 2,.mov (.const (.int .i64 0)),none⟩,⟨some 3,.mov (.const (.bool false)),none⟩]) (.ret)) (.skip))) (.seq (.region [⟨some 41,.mov (.tmp 0),none⟩,
 ⟨some 42,.slc 0 (.tmp 41) (some (.const (.int .i64 1))) (some (.const (.int .i64 3))) none,none⟩,⟨some 43,.call (.fn 287) [(.tmp 42),(.const (.int .i64 2)),(.const (.int .i64 2))],none⟩,⟨some 44,.mov (.tmp 0),none⟩,
 ⟨some 45,.slc 0 (.tmp 44) (some (.const (.int .i64 3))) none none,none⟩,⟨some 46,.call (.fn 287) [(.tmp 45),(.const (.int .i64 2)),(.const (.int .i64 2))],none⟩,⟨some 4,.mov (.tmp 43),none⟩,⟨some 5,.mov (.tmp 46),none⟩]) (.seq (.region [⟨some 47,.mov (.tmp 4),none⟩,
 ⟨some 48,.bin .mul .no (.tmp 47) (.const (.int .i64 3600)),none⟩,⟨some 49,.mov (.tmp 5),none⟩,⟨some 50,.bin .mul .no (.tmp 49) (.const (.int .i64 60)),none⟩,⟨some 51,.bin .add .no (.tmp 48) (.tmp 50),none⟩,
 ⟨some 6,.mov (.tmp 51),none⟩]) (.seq (.seq (.region [⟨some 52,.mov (.tmp 0),none⟩,⟨some 53,.idxS (.tmp 52) (.const (.int .i64 0)),none⟩,⟨some 54,.bin .eql .no (.tmp 53) (.const (.b8 45)),none⟩]) (.cond (.tmp 54) (.region [⟨some 55,.mov (.tmp 6),none⟩,
 ⟨some 56,.un .neg (.tmp 55),none⟩,⟨some 6,.mov (.tmp 56),none⟩]) (.skip))) (.seq (.region [⟨some 57,.mov (.tmp 6),none⟩,⟨some 58,.mov (.tmp 4),none⟩,⟨some 59,.bin .lss .no (.tmp 58) (.const (.int .i64 24)),none⟩,
 ⟨some 60,.mov (.tmp 59),none⟩,⟨some 61,.mov (.tmp 5),some (60,true)⟩,⟨some 62,.bin .lss .no (.tmp 61) (.const (.int .i64 60)),some (60,true)⟩,⟨some 63,.pick (.tmp 60) (.tmp 62) (.const (.bool false)),none⟩,
 ⟨some 2,.mov (.tmp 57),none⟩,⟨some 3,.mov (.tmp 63),none⟩]) (.ret)))))))) }

/-- posthorn/when.Days -/
def F_when_Days : ACFn := { nt := 53,results := [.tmp 6,.tmp 7],body := (.seq (.region [⟨some 6,.mov (.const (.int .i64 0)),none⟩,⟨some 7,.mov (.const (.int .i64 0)),none⟩]) (.seq (.seq (.region [⟨some 10,.mov (.tmp 0),none⟩,⟨some 11,.bin .lss .no (.tmp 10) (.const (.int .i64 1970)),none⟩,
 ⟨some 12,.mov (.tmp 11),none⟩,⟨some 13,.mov (.tmp 0),some (12,false)⟩,⟨some 14,.bin .gtr .no (.tmp 13) (.const (.int .i64 9999)),some (12,false)⟩,⟨some 15,.pick (.tmp 12) (.const (.bool true)) (.tmp 14),none⟩,
 ⟨some 16,.mov (.tmp 15),none⟩,⟨some 17,.mov (.tmp 1),some (16,false)⟩,⟨some 18,.bin .lss .no (.tmp 17) (.const (.int .i64 1)),some (16,false)⟩,⟨some 19,.pick (.tmp 16) (.const (.bool true)) (.tmp 18),none⟩,
 ⟨some 20,.mov (.tmp 19),none⟩,⟨some 21,.mov (.tmp 1),some (20,false)⟩,⟨some 22,.bin .gtr .no (.tmp 21) (.const (.int .i64 12)),some (20,false)⟩,⟨some 23,.pick (.tmp 20) (.const (.bool true)) (.tmp 22),none⟩,
 ⟨some 24,.mov (.tmp 23),none⟩,⟨some 25,.mov (.tmp 2),some (24,false)⟩,⟨some 26,.bin .lss .no (.tmp 25) (.const (.int .i64 1)),some (24,false)⟩,⟨some 27,.pick (.tmp 24) (.const (.bool true)) (.tmp 26),none⟩,
 ⟨some 28,.mov (.tmp 27),none⟩,⟨some 29,.mov (.tmp 2),some (28,false)⟩,⟨some 30,.mov (.tmp 0),some (28,false)⟩,⟨some 31,.mov (.tmp 1),some (28,false)⟩,⟨some 32,.call (.fn 307) [(.tmp 30),(.tmp 31)],some (28,false)⟩,
 ⟨some 33,.bin .gtr .no (.tmp 29) (.tmp 32),some (28,false)⟩,⟨some 34,.pick (.tmp 28) (.const (.bool true)) (.tmp 33),none⟩]) (.cond (.tmp 34) (.seq (.region [⟨some 6,.mov (.const (.int .i64 0)),none⟩,⟨some 7,.mov (.const (.int .i64 110)),none⟩]) (.ret)) (.skip))) (.seq (.region [⟨some 35,.mov (.tmp 0),none⟩,
 ⟨some 36,.call (.fn 306) [(.tmp 35)],none⟩,⟨some 37,.mov (.tmp 2),none⟩,⟨some 38,.bin .add .no (.tmp 36) (.tmp 37),none⟩,⟨some 39,.bin .sub .no (.tmp 38) (.const (.int .i64 1)),none⟩,⟨some 8,.mov (.tmp 39),none⟩]) (.seq (.seq (.region [⟨some 40,.mov (.tmp 1),none⟩,
 ⟨some 41,.mov (.const (.int .i64 0)),none⟩]) (.block 0 (.loop (.seq (.region [⟨some 42,.bin .lss .no (.tmp 41) (.tmp 40),none⟩]) (.seq (.cond (.tmp 42) (.skip) (.exit 0)) (.seq (.block 1 (.seq (.region [⟨some 43,.mov (.tmp 41),none⟩,
 ⟨some 9,.mov (.tmp 43),none⟩]) (.seq (.region [⟨some 44,.mov (.tmp 9),none⟩,⟨some 45,.bin .gtr .no (.tmp 44) (.const (.int .i64 0)),none⟩]) (.cond (.tmp 45) (.region [⟨some 46,.mov (.tmp 8),none⟩,⟨some 47,.mov (.tmp 0),none⟩,
 ⟨some 48,.mov (.tmp 9),none⟩,⟨some 49,.call (.fn 307) [(.tmp 47),(.tmp 48)],none⟩,⟨some 50,.bin .add .no (.tmp 46) (.tmp 49),none⟩,⟨some 8,.mov (.tmp 50),none⟩]) (.skip))))) (.region [⟨some 51,.bin .add .no (.tmp 41) (.const (.int .i64 1)),none⟩,
 ⟨some 41,.mov (.tmp 51),none⟩]))))))) (.seq (.region [⟨some 52,.mov (.tmp 8),none⟩,⟨some 6,.mov (.tmp 52),none⟩,⟨some 7,.mov (.const (.int .i64 0)),none⟩]) (.ret)))))) }

/-- posthorn/date.isDomain -/
def F_date_isDomain : ACFn := { nt := 6,results := [.tmp 2],body := (.seq (.region [⟨some 2,.mov (.const (.bool false)),none⟩]) (.seq (.region [⟨some 3,.mov (.tmp 0),none⟩,⟨some 4,.build [.str [],.str [],.str []] [(1,1,(.const (.str [120]))),(2,1,(.tmp 3))],none⟩,
 ⟨some 5,.call (.fn 111) [(.tmp 4)],none⟩,⟨some 2,.mov (.tmp 5),none⟩]) (.ret))) }

/-- posthorn/date.five -/
def F_date_five : ACFn := { nt := 17,results := [.tmp 2],body := (.seq (.region [⟨some 2,.mov (.const (.str [])),none⟩]) (.seq (.region [⟨some 3,.mov (.const (.str [])),none⟩]) (.block 0 (.loop (.block 1 (.seq (.region [⟨some 4,.mov (.tmp 0),none⟩,
 ⟨some 5,.bin .and .no (.tmp 4) (.const (.int .u64 31)),none⟩,⟨some 6,.mov (.tmp 0),none⟩,⟨some 7,.bin .and .no (.tmp 6) (.const (.int .u64 31)),none⟩,⟨some 8,.bin .add .no (.tmp 7) (.const (.int .u64 1)),none⟩,
 ⟨some 9,.slc 0 (.const (.str [48,49,50,51,52,53,54,55,56,57,97,98,99,100,101,102,103,104,105,106,107,108,109,110,111,112,113,114,115,116,117,118])) (some (.tmp 5)) (some (.tmp 8)) none,none⟩,⟨some 10,.mov (.tmp 3),none⟩,
 ⟨some 11,.bin .add .no (.tmp 9) (.tmp 10),none⟩,⟨some 3,.mov (.tmp 11),none⟩]) (.seq (.region [⟨some 12,.mov (.tmp 0),none⟩,⟨some 13,.bin .shr .no (.tmp 12) (.const (.int .u64 5)),none⟩,⟨some 0,.mov (.tmp 13),none⟩]) (.seq (.region [⟨some 14,.mov (.tmp 0),none⟩,
 ⟨some 15,.bin .eql .no (.tmp 14) (.const (.int .u64 0)),none⟩]) (.cond (.tmp 15) (.seq (.region [⟨some 16,.mov (.tmp 3),none⟩,⟨some 2,.mov (.tmp 16),none⟩]) (.ret)) (.skip)))))))))) }

/-- strings.CutPrefix -/
def F_strings_CutPrefix : ACFn := { nt := 11,results := [.tmp 4,.tmp 5],body := (.seq (.region [⟨some 4,.mov (.const (.str [])),none⟩,⟨some 5,.mov (.const (.bool false)),none⟩]) (.seq (.region [⟨some 6,.mov (.tmp 0),none⟩,⟨some 7,.mov (.tmp 1),none⟩,
 ⟨some 8,.call (.fn 314) [(.tmp 6),(.tmp 7)],none⟩,⟨some 9,.ext 0 (.tmp 8),none⟩,⟨some 10,.ext 1 (.tmp 8),none⟩,⟨some 4,.mov (.tmp 9),none⟩,⟨some 5,.mov (.tmp 10),none⟩]) (.ret))) }

/-- posthorn/when.before -/
def F_when_before : ACFn := { nt := 19,results := [.tmp 2],body := (.seq (.region [⟨some 2,.mov (.const (.int .i64 0)),none⟩]) (.seq (.region [⟨some 4,.mov (.tmp 0),none⟩,⟨some 5,.bin .sub .no (.tmp 4) (.const (.int .i64 1)),none⟩,
 ⟨some 3,.mov (.tmp 5),none⟩]) (.seq (.region [⟨some 6,.mov (.tmp 3),none⟩,⟨some 7,.bin .sub .no (.tmp 6) (.const (.int .i64 1969)),none⟩,⟨some 8,.bin .mul .no (.const (.int .i64 365)) (.tmp 7),none⟩,⟨some 9,.mov (.tmp 3),none⟩,
 ⟨some 10,.bin .quo .no (.tmp 9) (.const (.int .i64 4)),none⟩,⟨some 11,.bin .add .no (.tmp 8) (.tmp 10),none⟩,⟨some 12,.mov (.tmp 3),none⟩,⟨some 13,.bin .quo .no (.tmp 12) (.const (.int .i64 100)),none⟩,
 ⟨some 14,.bin .sub .no (.tmp 11) (.tmp 13),none⟩,⟨some 15,.mov (.tmp 3),none⟩,⟨some 16,.bin .quo .no (.tmp 15) (.const (.int .i64 400)),none⟩,⟨some 17,.bin .add .no (.tmp 14) (.tmp 16),none⟩,⟨some 18,.bin .sub .no (.tmp 17) (.const (.int .i64 477)),none⟩,
 ⟨some 2,.mov (.tmp 18),none⟩]) (.ret)))) }

/-- posthorn/when.month -/
def F_when_month : ACFn := { nt := 16,results := [.tmp 4],body := (.seq (.region [⟨some 4,.mov (.const (.int .i64 0)),none⟩]) (.seq (.region [⟨some 6,.build [.int .i64 0,.int .i64 0,.int .i64 0,.int .i64 0,.int .i64 0,.int .i64 0,.int .i64 0,.int .i64 0,.int .i64 0,.int .i64 0,.int .i64 0,.int .i64 0,.int .i64 0] [(0,1,(.const (.int .i64 0))),(1,1,(.const (.int .i64 31))),(2,1,(.const (.int .i64 28))),(3,1,(.const (.int .i64 31))),(4,1,(.const (.int .i64 30))),(5,1,(.const (.int .i64 31))),(6,1,(.const (.int .i64 30))),(7,1,(.const (.int .i64 31))),(8,1,(.const (.int .i64 31))),(9,1,(.const (.int .i64 30))),(10,1,(.const (.int .i64 31))),(11,1,(.const (.int .i64 30))),(12,1,(.const (.int .i64 31)))],none⟩,
 ⟨some 5,.alloc [.int .i64 0,.int .i64 0,.int .i64 0,.int .i64 0,.int .i64 0,.int .i64 0,.int .i64 0,.int .i64 0,.int .i64 0,.int .i64 0,.int .i64 0,.int .i64 0,.int .i64 0],none⟩,⟨none,.store 13 (.tmp 5) (.tmp 6),none⟩]) (.seq (.seq (.region [⟨some 7,.mov (.tmp 1),none⟩,
 ⟨some 8,.bin .eql .no (.tmp 7) (.const (.int .i64 2)),none⟩,⟨some 9,.mov (.tmp 8),none⟩,⟨some 10,.mov (.tmp 0),some (9,true)⟩,⟨some 11,.call (.fn 315) [(.tmp 10)],some (9,true)⟩,⟨some 12,.pick (.tmp 9) (.tmp 11) (.const (.bool false)),none⟩]) (.cond (.tmp 12) (.seq (.region [⟨some 4,.mov (.const (.int .i64 29)),none⟩]) (.ret)) (.skip))) (.seq (.region [⟨some 13,.mov (.tmp 1),none⟩,
 ⟨some 14,.iaddrA 13 1 (.tmp 5) (.tmp 13),none⟩,⟨some 15,.load false 1 (.tmp 14),none⟩,⟨some 4,.mov (.tmp 15),none⟩]) (.ret))))) }

/-- posthorn/posthornref12.Year -/
def F_posthornref12_Year : ACFn := { nt := 16,results := [.tmp 2],body := (.seq (.region [⟨some 2,.mov (.const (.int .i64 0)),none⟩]) (.seq (.seq (.region [⟨some 3,.mov (.tmp 0),none⟩,⟨some 4,.bin .rem .no (.tmp 3) (.const (.int .i64 400)),none⟩,
 ⟨some 5,.bin .eql .no (.tmp 4) (.const (.int .i64 0)),none⟩,⟨some 6,.mov (.tmp 5),none⟩,⟨some 7,.mov (.tmp 0),some (6,false)⟩,⟨some 8,.bin .rem .no (.tmp 7) (.const (.int .i64 4)),some (6,false)⟩,⟨some 9,.bin .eql .no (.tmp 8) (.const (.int .i64 0)),some (6,false)⟩,
 ⟨some 10,.mov (.tmp 9),some (6,false)⟩,⟨some 11,.mov (.tmp 0),some (10,true)⟩,⟨some 12,.bin .rem .no (.tmp 11) (.const (.int .i64 100)),some (10,true)⟩,⟨some 13,.bin .neq .no (.tmp 12) (.const (.int .i64 0)),some (10,true)⟩,
 ⟨some 14,.pick (.tmp 10) (.tmp 13) (.const (.bool false)),some (6,false)⟩,⟨some 15,.pick (.tmp 6) (.const (.bool true)) (.tmp 14),none⟩]) (.cond (.tmp 15) (.seq (.region [⟨some 2,.mov (.const (.int .i64 366)),none⟩]) (.ret)) (.skip))) (.seq (.region [⟨some 2,.mov (.const (.int .i64 365)),none⟩]) (.ret)))) }

/-- posthorn/posthornref12.Month -/
def F_posthornref12_Month : ACFn := { nt := 16,results := [.tmp 4],body := (.seq (.region [⟨some 4,.mov (.const (.int .i64 0)),none⟩]) (.seq (.seq (.region [⟨some 5,.mov (.tmp 1),none⟩]) (.block 0 (.seq (.seq (.region [⟨some 7,.bin .eql .no (.tmp 5) (.const (.int .i64 4)),none⟩,
 ⟨some 6,.mov (.tmp 7),none⟩]) (.cond (.tmp 6) (.skip) (.seq (.region [⟨some 8,.bin .eql .no (.tmp 5) (.const (.int .i64 6)),none⟩,⟨some 6,.mov (.tmp 8),none⟩]) (.cond (.tmp 6) (.skip) (.seq (.region [⟨some 9,.bin .eql .no (.tmp 5) (.const (.int .i64 9)),none⟩,
 ⟨some 6,.mov (.tmp 9),none⟩]) (.cond (.tmp 6) (.skip) (.region [⟨some 10,.bin .eql .no (.tmp 5) (.const (.int .i64 11)),none⟩,⟨some 6,.mov (.tmp 10),none⟩]))))))) (.cond (.tmp 6) (.seq (.region [⟨some 4,.mov (.const (.int .i64 30)),none⟩]) (.ret)) (.seq (.region [⟨some 12,.bin .eql .no (.tmp 5) (.const (.int .i64 2)),none⟩,
 ⟨some 11,.mov (.tmp 12),none⟩]) (.cond (.tmp 11) (.seq (.region [⟨some 13,.mov (.tmp 0),none⟩,⟨some 14,.call (.fn 308) [(.tmp 13)],none⟩,⟨some 15,.bin .sub .no (.tmp 14) (.const (.int .i64 337)),none⟩,
 ⟨some 4,.mov (.tmp 15),none⟩]) (.ret)) (.skip))))))) (.seq (.region [⟨some 4,.mov (.const (.int .i64 31)),none⟩]) (.ret)))) }

/-- posthorn/date.words$1 -/
def F_date_words_c1 : ACFn := { nt := 41,results := [],body := (.seq (.region [⟨some 3,.mov (.const (.str [])),none⟩]) (.seq (.seq (.region [⟨some 5,.load false 1 (.tmp 1),none⟩,⟨some 6,.len true (.tmp 5),none⟩,⟨some 7,.mov (.const (.int .i64 0)),none⟩]) (.block 0 (.loop (.seq (.region [⟨some 8,.bin .lss .no (.tmp 7) (.tmp 6),none⟩]) (.seq (.cond (.tmp 8) (.skip) (.exit 0)) (.seq (.block 1 (.seq (.region [⟨some 9,.mov (.tmp 7),none⟩,
 ⟨some 4,.mov (.tmp 9),none⟩]) (.seq (.seq (.region [⟨some 10,.load false 1 (.tmp 1),none⟩,⟨some 11,.mov (.tmp 4),none⟩,⟨some 12,.idxS (.tmp 10) (.tmp 11),none⟩,⟨some 13,.bin .neq .no (.tmp 12) (.const (.b8 32)),none⟩,
 ⟨some 14,.mov (.tmp 13),none⟩,⟨some 15,.load false 1 (.tmp 1),some (14,true)⟩,⟨some 16,.mov (.tmp 4),some (14,true)⟩,⟨some 17,.idxS (.tmp 15) (.tmp 16),some (14,true)⟩,⟨some 18,.bin .neq .no (.tmp 17) (.const (.b8 9)),some (14,true)⟩,
 ⟨some 19,.pick (.tmp 14) (.tmp 18) (.const (.bool false)),none⟩]) (.cond (.tmp 19) (.seq (.region [⟨some 20,.mov (.tmp 3),none⟩,⟨some 21,.load false 1 (.tmp 1),none⟩,⟨some 22,.mov (.tmp 4),none⟩,⟨some 23,.mov (.tmp 4),none⟩,
 ⟨some 24,.bin .add .no (.tmp 23) (.const (.int .i64 1)),none⟩,⟨some 25,.slc 0 (.tmp 21) (some (.tmp 22)) (some (.tmp 24)) none,none⟩,⟨some 26,.bin .add .no (.tmp 20) (.tmp 25),none⟩,⟨some 3,.mov (.tmp 26),none⟩]) (.exit 1)) (.skip))) (.seq (.seq (.region [⟨some 27,.mov (.tmp 3),none⟩,
 ⟨some 28,.bin .neq .no (.tmp 27) (.const (.str [])),none⟩,⟨some 29,.mov (.tmp 28),none⟩,⟨some 30,.mov (.tmp 0),some (29,true)⟩,⟨some 31,.mov (.tmp 3),some (29,true)⟩,⟨some 32,.call (.tmp 30) [(.tmp 31)],some (29,true)⟩,
 ⟨some 33,.un .not (.tmp 32),some (29,true)⟩,⟨some 34,.pick (.tmp 29) (.tmp 33) (.const (.bool false)),none⟩]) (.cond (.tmp 34) (.ret) (.skip))) (.region [⟨some 3,.mov (.const (.str [])),none⟩]))))) (.region [⟨some 35,.bin .add .no (.tmp 7) (.const (.int .i64 1)),none⟩,
 ⟨some 7,.mov (.tmp 35),none⟩]))))))) (.seq (.region [⟨some 36,.mov (.tmp 3),none⟩,⟨some 37,.bin .neq .no (.tmp 36) (.const (.str [])),none⟩]) (.cond (.tmp 37) (.region [⟨some 38,.mov (.tmp 0),none⟩,⟨some 39,.mov (.tmp 3),none⟩,
 ⟨some 40,.call (.tmp 38) [(.tmp 39)],none⟩]) (.skip))))) }

/-- posthorn/date.lower -/
def F_date_lower : ACFn := { nt := 29,results := [.tmp 2],body := (.seq (.region [⟨some 2,.mov (.const (.str [])),none⟩]) (.seq (.region [⟨some 6,.mov (.tmp 0),none⟩,⟨some 7,.cS2B true (.tmp 6),none⟩,⟨some 3,.mov (.tmp 7),none⟩]) (.seq (.seq (.region [⟨some 8,.mov (.tmp 3),none⟩,
 ⟨some 9,.len false (.tmp 8),none⟩,⟨some 10,.mov (.const (.int .i64 0)),none⟩]) (.block 0 (.loop (.seq (.region [⟨some 11,.bin .lss .no (.tmp 10) (.tmp 9),none⟩]) (.seq (.cond (.tmp 11) (.skip) (.exit 0)) (.seq (.block 1 (.seq (.region [⟨some 12,.mov (.tmp 10),none⟩,
 ⟨some 13,.iaddr 1 (.tmp 8) (.tmp 10),none⟩,⟨some 14,.load false 1 (.tmp 13),none⟩,⟨some 4,.mov (.tmp 12),none⟩,⟨some 5,.mov (.tmp 14),none⟩]) (.seq (.region [⟨some 15,.mov (.tmp 5),none⟩,⟨some 16,.bin .geq .no (.tmp 15) (.const (.b8 65)),none⟩,
 ⟨some 17,.mov (.tmp 16),none⟩,⟨some 18,.mov (.tmp 5),some (17,true)⟩,⟨some 19,.bin .leq .no (.tmp 18) (.const (.b8 90)),some (17,true)⟩,⟨some 20,.pick (.tmp 17) (.tmp 19) (.const (.bool false)),none⟩]) (.cond (.tmp 20) (.region [⟨some 21,.mov (.tmp 3),none⟩,
 ⟨some 22,.mov (.tmp 4),none⟩,⟨some 23,.mov (.tmp 5),none⟩,⟨some 24,.bin .add .no (.tmp 23) (.const (.b8 32)),none⟩,⟨some 25,.iaddr 1 (.tmp 21) (.tmp 22),none⟩,⟨none,.store 1 (.tmp 25) (.tmp 24),none⟩]) (.skip))))) (.region [⟨some 26,.bin .add .no (.tmp 10) (.const (.int .i64 1)),none⟩,
 ⟨some 10,.mov (.tmp 26),none⟩]))))))) (.seq (.region [⟨some 27,.mov (.tmp 3),none⟩,⟨some 28,.cB2S true (.tmp 27),none⟩,⟨some 2,.mov (.tmp 28),none⟩]) (.ret))))) }

/-- internal/stringslite.CutPrefix -/
def F_internal_stringslite_CutPrefix : ACFn := { nt := 15,results := [.tmp 4,.tmp 5],body := (.seq (.region [⟨some 4,.mov (.const (.str [])),none⟩,⟨some 5,.mov (.const (.bool false)),none⟩]) (.seq (.seq (.region [⟨some 6,.mov (.tmp 0),none⟩,⟨some 7,.mov (.tmp 1),none⟩,
 ⟨some 8,.call (.fn 79) [(.tmp 6),(.tmp 7)],none⟩,⟨some 9,.un .not (.tmp 8),none⟩]) (.cond (.tmp 9) (.seq (.region [⟨some 10,.mov (.tmp 0),none⟩,⟨some 4,.mov (.tmp 10),none⟩,⟨some 5,.mov (.const (.bool false)),none⟩]) (.ret)) (.skip))) (.seq (.region [⟨some 11,.mov (.tmp 0),none⟩,
 ⟨some 12,.mov (.tmp 1),none⟩,⟨some 13,.len true (.tmp 12),none⟩,⟨some 14,.slc 0 (.tmp 11) (some (.tmp 13)) none none,none⟩,⟨some 4,.mov (.tmp 14),none⟩,⟨some 5,.mov (.const (.bool true)),none⟩]) (.ret)))) }

/-- posthorn/when.leap -/
def F_when_leap : ACFn := { nt := 16,results := [.tmp 2],body := (.seq (.region [⟨some 2,.mov (.const (.bool false)),none⟩]) (.seq (.region [⟨some 3,.mov (.tmp 0),none⟩,⟨some 4,.bin .rem .no (.tmp 3) (.const (.int .i64 4)),none⟩,
 ⟨some 5,.bin .eql .no (.tmp 4) (.const (.int .i64 0)),none⟩,⟨some 6,.mov (.tmp 5),none⟩,⟨some 7,.mov (.tmp 0),some (6,true)⟩,⟨some 8,.bin .rem .no (.tmp 7) (.const (.int .i64 100)),some (6,true)⟩,⟨some 9,.bin .neq .no (.tmp 8) (.const (.int .i64 0)),some (6,true)⟩,
 ⟨some 10,.pick (.tmp 6) (.tmp 9) (.const (.bool false)),none⟩,⟨some 11,.mov (.tmp 10),none⟩,⟨some 12,.mov (.tmp 0),some (11,false)⟩,⟨some 13,.bin .rem .no (.tmp 12) (.const (.int .i64 400)),some (11,false)⟩,
 ⟨some 14,.bin .eql .no (.tmp 13) (.const (.int .i64 0)),some (11,false)⟩,⟨some 15,.pick (.tmp 11) (.const (.bool true)) (.tmp 14),none⟩,⟨some 2,.mov (.tmp 15),none⟩]) (.ret))) }

end Go.Ab

/-
  The abstract program: functions by their numbers.
-/
namespace Go.Ab
def prog : AP := fun n => (if n < 223 then (if n < 114 then (if n < 68 then (if n < 60 then (if n < 56 then (if n < 51 then (if n = 50 then some (.code F_sheet_Right) else none)
  else (if n < 53 then (if n = 51 then some (.code F_posthornref10_Right) else none)
  else (if n = 53 then some (.code F_utf_Valid) else none)))
  else (if n < 58 then (if n < 57 then (if n = 56 then some (.code F_posthornref04_Has) else none)
  else (if n = 57 then some (.code F_P_strings_Builder_WriteByte) else none))
  else (if n < 59 then (if n = 58 then some (.code F_P_strings_Builder_WriteString) else none)
  else (if n = 59 then some (.primS pBuilderString) else none))))
  else (if n < 64 then (if n < 62 then (if n < 61 then (if n = 60 then some (.code F_sheet_line) else none)
  else (if n = 61 then some (.code F_utf_Cut) else none))
  else (if n < 63 then (if n = 62 then some (.code F_posthornref10_Plain) else none)
  else (if n = 63 then some (.code F_posthornref02_Cut) else none)))
  else (if n < 66 then (if n < 65 then (if n = 64 then some (.code F_sheet_isName) else none)
  else (if n = 65 then some (.code F_sheet_isText) else none))
  else (if n < 67 then (if n = 66 then some (.code F_strings_Contains) else none)
  else (if n = 67 then some (.code F_posthornref10_Name) else none)))))
  else (if n < 78 then (if n < 74 then (if n < 72 then (if n < 69 then (if n = 68 then some (.code F_posthornref10_Text) else none)
  else (if n = 69 then some (.code F_utf_Points) else none))
  else (if n < 73 then (if n = 72 then some (.code F_strings_HasPrefix) else none)
  else (if n = 73 then some (.primS pCopyCheck) else none)))
  else (if n < 76 then (if n < 75 then (if n = 74 then some (.code F_posthornref02_Valid) else none)
  else (if n = 75 then some (.code F_posthornref02_Next) else none))
  else (if n < 77 then (if n = 76 then some (.code F_strings_Index) else none)
  else (if n = 77 then some (.code F_utf_Next) else none))))
  else (if n < 82 then (if n < 80 then (if n < 79 then (if n = 78 then some (.prim pStrIndexByte) else none)
  else (if n = 79 then some (.code F_internal_stringslite_HasPrefix) else none))
  else (if n < 81 then (if n = 80 then some (.code F_posthornref02_Points) else none)
  else (if n = 81 then some (.code F_posthornref02_Put) else none)))
  else (if n < 85 then (if n < 83 then (if n = 82 then some (.prim pStrIndex) else none)
  else (if n = 83 then some (.code F_utf_isPoint) else none))
  else (if n < 111 then (if n = 85 then some (.code F_posthornref02_Point) else none)
  else (if n = 111 then some (.code F_addr_Right) else none))))))
  else (if n < 157 then (if n < 133 then (if n < 126 then (if n < 124 then (if n < 115 then (if n = 114 then some (.code F_posthornref04_Lower) else none)
  else (if n = 115 then some (.code F_addr_Plain) else none))
  else (if n < 125 then (if n = 124 then some (.code F_addr_parts) else none)
  else (if n = 125 then some (.code F_addr_isAtom) else none)))
  else (if n < 128 then (if n < 127 then (if n = 126 then some (.code F_addr_isLabel) else none)
  else (if n = 127 then some (.code F_addr_isName) else none))
  else (if n < 130 then (if n = 128 then some (.code F_strings_Cut) else none)
  else (if n = 130 then some (.code F_strings_HasSuffix) else none))))
  else (if n < 143 then (if n < 135 then (if n < 134 then (if n = 133 then some (.prim pStrSplit) else none)
  else (if n = 134 then some (.code F_addr_alnum) else none))
  else (if n < 136 then (if n = 135 then some (.code F_internal_stringslite_Cut) else none)
  else (if n = 136 then some (.code F_internal_stringslite_HasSuffix) else none)))
  else (if n < 148 then (if n < 147 then (if n = 143 then some (.code F_posthornlaw06_Great) else none)
  else (if n = 147 then some (.code F_fields_Get) else none))
  else (if n < 155 then (if n = 148 then some (.code F_posthornref06_Get) else none)
  else (if n = 155 then some (.code F_fields_Same) else none)))))
  else (if n < 173 then (if n < 163 then (if n < 160 then (if n < 158 then (if n = 157 then some (.code F_fields_isName) else none)
  else (if n = 158 then some (.code F_fields_isValue) else none))
  else (if n < 161 then (if n = 160 then some (.code F_posthornref06_Name) else none)
  else (if n = 161 then some (.code F_posthornref06_Value) else none)))
  else (if n < 168 then (if n < 167 then (if n = 163 then some (.code F_posthornref06_Same) else none)
  else (if n = 167 then some (.code F_fields_lower) else none))
  else (if n < 170 then (if n = 168 then some (.code F_fields_trim) else none)
  else (if n = 170 then some (.code F_posthornref06_Trim) else none))))
  else (if n < 219 then (if n < 209 then (if n < 199 then (if n = 173 then some (.code F_posthornref06_blank) else none)
  else (if n = 199 then some (.code F_when_Right) else none))
  else (if n < 215 then (if n = 209 then some (.code F_posthornref12_Time) else none)
  else (if n = 215 then some (.code F_posthornref04_Parts) else none)))
  else (if n < 221 then (if n < 220 then (if n = 219 then some (.code F_posthornref07_Atom) else none)
  else (if n = 220 then some (.code F_posthornref07_Letter) else none))
  else (if n < 222 then (if n = 221 then some (.code F_posthornlaw04_alive) else none)
  else (if n = 222 then some (.code F_word_Encode) else none)))))))
  else (if n < 272 then (if n < 242 then (if n < 234 then (if n < 227 then (if n < 225 then (if n < 224 then (if n = 223 then some (.code F_posthornref04_Encode) else none)
  else (if n = 224 then some (.code F_word_Plain) else none))
  else (if n < 226 then (if n = 225 then some (.code F_posthornref04_Plain) else none)
  else (if n = 226 then some (.code F_posthornlaw04_WordEncodes) else none)))
  else (if n < 232 then (if n < 229 then (if n = 227 then some (.code F_word_One) else none)
  else (if n = 229 then some (.code F_word_Decode) else none))
  else (if n < 233 then (if n = 232 then some (.code F_posthornlaw04_WordBack) else none)
  else (if n = 233 then some (.code F_posthornlaw04_WordShort) else none))))
  else (if n < 238 then (if n < 236 then (if n < 235 then (if n = 234 then some (.code F_bits_Encode) else none)
  else (if n = 235 then some (.code F_posthornlaw04_WordSays) else none))
  else (if n < 237 then (if n = 236 then some (.code F_posthornlaw04_WordOthers) else none)
  else (if n = 237 then some (.code F_word_pieces) else none)))
  else (if n < 240 then (if n < 239 then (if n = 238 then some (.prim pStrJoin) else none)
  else (if n = 239 then some (.code F_posthornref01_Encode) else none))
  else (if n < 241 then (if n = 240 then some (.code F_word_lower) else none)
  else (if n = 241 then some (.code F_bits_Decode) else none)))))
  else (if n < 256 then (if n < 248 then (if n < 246 then (if n < 245 then (if n = 242 then some (.code F_word_short) else none)
  else (if n = 245 then some (.code F_bits_fits) else none))
  else (if n < 247 then (if n = 246 then some (.code F_word_pieces_c1) else none)
  else (if n = 247 then some (.code F_posthornref01_May) else none)))
  else (if n < 250 then (if n < 249 then (if n = 248 then some (.code F_posthornref01_digits) else none)
  else (if n = 249 then some (.code F_posthornref01_Sign) else none))
  else (if n < 251 then (if n = 250 then some (.code F_bits_value) else none)
  else (if n = 251 then some (.code F_word_digit) else none))))
  else (if n < 261 then (if n < 258 then (if n < 257 then (if n = 256 then some (.code F_date_Print) else none)
  else (if n = 257 then some (.code F_posthornref20_Print) else none))
  else (if n < 259 then (if n = 258 then some (.code F_date_Weekday) else none)
  else (if n = 259 then some (.code F_posthornref20_Weekday) else none)))
  else (if n < 265 then (if n < 262 then (if n = 261 then some (.code F_posthornlaw20_DatePrints) else none)
  else (if n = 262 then some (.code F_date_Parse) else none))
  else (if n < 267 then (if n = 265 then some (.code F_date_ID) else none)
  else (if n = 267 then some (.code F_date_IDs) else none))))))
  else (if n < 288 then (if n < 280 then (if n < 276 then (if n < 274 then (if n < 273 then (if n = 272 then some (.code F_posthornlaw20_DateUnlike) else none)
  else (if n = 273 then some (.code F_posthornlaw20_DateWeeks) else none))
  else (if n < 275 then (if n = 274 then some (.code F_date_isShift) else none)
  else (if n = 275 then some (.code F_when_Civil) else none)))
  else (if n < 278 then (if n < 277 then (if n = 276 then some (.code F_date_two) else none)
  else (if n = 277 then some (.code F_date_dayName) else none))
  else (if n < 279 then (if n = 278 then some (.code F_date_monthName) else none)
  else (if n = 279 then some (.code F_posthornref20_shift) else none))))
  else (if n < 284 then (if n < 282 then (if n < 281 then (if n = 280 then some (.code F_posthornref12_Civil) else none)
  else (if n = 281 then some (.code F_posthornref20_Day) else none))
  else (if n < 283 then (if n = 282 then some (.code F_posthornref12_Digits) else none)
  else (if n = 283 then some (.code F_posthornref20_Month) else none)))
  else (if n < 286 then (if n < 285 then (if n = 284 then some (.code F_date_bare) else none)
  else (if n = 285 then some (.code F_date_words) else none))
  else (if n < 287 then (if n = 286 then some (.code F_date_weekday) else none)
  else (if n = 287 then some (.code F_date_digits) else none)))))
  else (if n < 306 then (if n < 292 then (if n < 290 then (if n < 289 then (if n = 288 then some (.code F_date_name) else none)
  else (if n = 289 then some (.code F_date_year) else none))
  else (if n < 291 then (if n = 290 then some (.code F_date_clock) else none)
  else (if n = 291 then some (.code F_date_zone) else none)))
  else (if n < 303 then (if n < 302 then (if n = 292 then some (.code F_when_Days) else none)
  else (if n = 302 then some (.code F_date_isDomain) else none))
  else (if n < 305 then (if n = 303 then some (.code F_date_five) else none)
  else (if n = 305 then some (.code F_strings_CutPrefix) else none))))
  else (if n < 310 then (if n < 308 then (if n < 307 then (if n = 306 then some (.code F_when_before) else none)
  else (if n = 307 then some (.code F_when_month) else none))
  else (if n < 309 then (if n = 308 then some (.code F_posthornref12_Year) else none)
  else (if n = 309 then some (.code F_posthornref12_Month) else none)))
  else (if n < 314 then (if n < 311 then (if n = 310 then some (.code F_date_words_c1) else none)
  else (if n = 311 then some (.code F_date_lower) else none))
  else (if n < 315 then (if n = 314 then some (.code F_internal_stringslite_CutPrefix) else none)
  else (if n = 315 then some (.code F_when_leap) else none))))))))
theorem prog_53 : prog 53 = some (.code F_utf_Valid) := rfl
theorem prog_56 : prog 56 = some (.code F_posthornref04_Has) := rfl
theorem prog_57 : prog 57 = some (.code F_P_strings_Builder_WriteByte) := rfl
theorem prog_58 : prog 58 = some (.code F_P_strings_Builder_WriteString) := rfl
theorem prog_59 : prog 59 = some (.primS pBuilderString) := rfl
theorem prog_61 : prog 61 = some (.code F_utf_Cut) := rfl
theorem prog_63 : prog 63 = some (.code F_posthornref02_Cut) := rfl
theorem prog_66 : prog 66 = some (.code F_strings_Contains) := rfl
theorem prog_69 : prog 69 = some (.code F_utf_Points) := rfl
theorem prog_72 : prog 72 = some (.code F_strings_HasPrefix) := rfl
theorem prog_73 : prog 73 = some (.primS pCopyCheck) := rfl
theorem prog_74 : prog 74 = some (.code F_posthornref02_Valid) := rfl
theorem prog_75 : prog 75 = some (.code F_posthornref02_Next) := rfl
theorem prog_76 : prog 76 = some (.code F_strings_Index) := rfl
theorem prog_77 : prog 77 = some (.code F_utf_Next) := rfl
theorem prog_78 : prog 78 = some (.prim pStrIndexByte) := rfl
theorem prog_79 : prog 79 = some (.code F_internal_stringslite_HasPrefix) := rfl
theorem prog_80 : prog 80 = some (.code F_posthornref02_Points) := rfl
theorem prog_81 : prog 81 = some (.code F_posthornref02_Put) := rfl
theorem prog_82 : prog 82 = some (.prim pStrIndex) := rfl
theorem prog_83 : prog 83 = some (.code F_utf_isPoint) := rfl
theorem prog_85 : prog 85 = some (.code F_posthornref02_Point) := rfl
theorem prog_130 : prog 130 = some (.code F_strings_HasSuffix) := rfl
theorem prog_133 : prog 133 = some (.prim pStrSplit) := rfl
theorem prog_136 : prog 136 = some (.code F_internal_stringslite_HasSuffix) := rfl
theorem prog_221 : prog 221 = some (.code F_posthornlaw04_alive) := rfl
theorem prog_222 : prog 222 = some (.code F_word_Encode) := rfl
theorem prog_223 : prog 223 = some (.code F_posthornref04_Encode) := rfl
theorem prog_224 : prog 224 = some (.code F_word_Plain) := rfl
theorem prog_225 : prog 225 = some (.code F_posthornref04_Plain) := rfl
theorem prog_226 : prog 226 = some (.code F_posthornlaw04_WordEncodes) := rfl
theorem prog_227 : prog 227 = some (.code F_word_One) := rfl
theorem prog_229 : prog 229 = some (.code F_word_Decode) := rfl
theorem prog_234 : prog 234 = some (.code F_bits_Encode) := rfl
theorem prog_237 : prog 237 = some (.code F_word_pieces) := rfl
theorem prog_238 : prog 238 = some (.prim pStrJoin) := rfl
theorem prog_239 : prog 239 = some (.code F_posthornref01_Encode) := rfl
theorem prog_240 : prog 240 = some (.code F_word_lower) := rfl
theorem prog_241 : prog 241 = some (.code F_bits_Decode) := rfl
theorem prog_242 : prog 242 = some (.code F_word_short) := rfl
theorem prog_245 : prog 245 = some (.code F_bits_fits) := rfl
theorem prog_246 : prog 246 = some (.code F_word_pieces_c1) := rfl
theorem prog_247 : prog 247 = some (.code F_posthornref01_May) := rfl
theorem prog_248 : prog 248 = some (.code F_posthornref01_digits) := rfl
theorem prog_249 : prog 249 = some (.code F_posthornref01_Sign) := rfl
theorem prog_250 : prog 250 = some (.code F_bits_value) := rfl
theorem prog_251 : prog 251 = some (.code F_word_digit) := rfl
end Go.Ab

/-
  Slices that grow: what a function has made itself.
-/
namespace Go.Ab
set_option linter.unusedVariables false
set_option linter.unusedSimpArgs false

/-- A state that has grown: its boxes and loops are these, its first tokens those. -/
structure GrewAt (B : List (List PV)) (T : List Bool) (L : List LoopS) (lo : Nat) (s : St) : Prop where
  bx : s.boxes = B
  lp : s.loops = L
  lw : s.low = lo
  tk : s.toks.take T.length = T
/-- A state of a function that was called in st and has laid no box. -/
abbrev Grew (st s : St) : Prop := GrewAt st.boxes st.toks st.loops st.boxes.length s

variable {B : List (List PV)} {T : List Bool} {L : List LoopS} {lo : Nat}
theorem GrewAt.len {s : St} (h : GrewAt B T L lo s) : T.length ≤ s.toks.length := by
  have := congrArg List.length h.tk
  simp at this; omega
theorem Grew.start {st : St} : Grew st { boxes := st.boxes, toks := st.toks, loops := st.loops, low := st.boxes.length } := ⟨rfl, rfl, rfl, by simp⟩
theorem GrewAt.start {ts : List Bool} : GrewAt B T L lo ⟨B, T ++ ts, L, lo⟩ := ⟨rfl, rfl, rfl, by simp⟩
/-- One more token. -/
def St.tok1 (s : St) : St := { s with toks := s.toks ++ [true] }
theorem GrewAt.tok1 {s : St} (h : GrewAt B T L lo s) : GrewAt B T L lo s.tok1 := ⟨h.bx, h.lp, h.lw, by
  show (s.toks ++ [true]).take T.length = T
  rw [List.take_append_of_le_length h.len]; exact h.tk⟩

/-- A slice that a function has made itself, or none. -/
def Own (st s : St) (esz : Nat) (v : PV) (xs : List PV) : Prop := (v = .nils ∧ xs = []) ∨ ∃ i, v = .sl esz (.own i) xs ∧ st.toks.length ≤ i ∧ s.toks[i]? = some true
def OwnB (st s : St) (v : PV) (l : List UInt8) : Prop := (v = .nils ∧ l = []) ∨ ∃ i, v = .bys (.own i) l ∧ st.toks.length ≤ i ∧ s.toks[i]? = some true

theorem Own.tok1 {st s : St} {esz : Nat} {v : PV} {xs : List PV} (h : Own st s esz v xs) : Own st s.tok1 esz v xs := by
  rcases h with h | ⟨i, h1, h2, h3⟩
  · exact .inl h
  · exact .inr ⟨i, h1, h2, by show (s.toks ++ [true])[i]? = some true; rw [List.getElem?_append_left (List.getElem?_eq_some_iff.1 h3).1]; exact h3⟩
theorem OwnB.tok1 {st s : St} {v : PV} {l : List UInt8} (h : OwnB st s v l) : OwnB st s.tok1 v l := by
  rcases h with h | ⟨i, h1, h2, h3⟩
  · exact .inl h
  · exact .inr ⟨i, h1, h2, by show (s.toks ++ [true])[i]? = some true; rw [List.getElem?_append_left (List.getElem?_eq_some_iff.1 h3).1]; exact h3⟩
theorem OwnB.by {st s : St} {v : PV} {l : List UInt8} (h : OwnB st s v l) : v.by = some l := by
  rcases h with ⟨rfl, rfl⟩ | ⟨i, rfl, _, _⟩ <;> rfl

/-- What append leaves of the tokens. -/
def appS (s : St) (v : PV) : St := match v with
  | .sl _ (.own i) _ => { s with toks := s.toks.set i false ++ [true] }
  | .bys (.own i) _ => { s with toks := s.toks.set i false ++ [true] }
  | _ => s.tok1
theorem appV_own {st s : St} {esz : Nat} {v u : PV} {xs : List PV} {t : Tok} (h : Own st s esz v xs) (hl : xs.length + 1 ≤ room) :
    appV esz s v (.sl esz t [u]) = some (.sl esz (.own s.toks.length) (xs ++ [u]), appS s v) := by
  rcases h with ⟨rfl, rfl⟩ | ⟨i, rfl, h2, h3⟩
  · simp [appV, srcV, freshT, room, appS, St.tok1]
  · simp [appV, srcV, freshT, appTok, appS, h3, hl]
theorem Own.app {st s : St} {esz : Nat} {v : PV} {xs ys : List PV} (hg : GrewAt B st.toks L lo s) (h : Own st s esz v xs) : GrewAt B st.toks L lo (appS s v) ∧ Own st (appS s v) esz (.sl esz (.own s.toks.length) ys) ys := by
  have hlen := hg.len
  rcases h with ⟨rfl, rfl⟩ | ⟨i, rfl, h2, h3⟩
  · refine ⟨hg.tok1, .inr ⟨_, rfl, hlen, ?_⟩⟩
    simp [appS, St.tok1]
  · refine ⟨⟨hg.bx, hg.lp, hg.lw, ?_⟩, .inr ⟨_, rfl, hlen, ?_⟩⟩
    · show (s.toks.set i false ++ [true]).take st.toks.length = st.toks
      rw [List.take_append_of_le_length (by simpa using hlen), List.take_set_of_le h2]; exact hg.tk
    · show (s.toks.set i false ++ [true])[s.toks.length]? = some true
      rw [List.getElem?_append_right (by simp)]; simp
theorem OwnB.app {st s : St} {v : PV} {l m : List UInt8} (hg : GrewAt B st.toks L lo s) (h : OwnB st s v l) : GrewAt B st.toks L lo (appS s v) ∧ OwnB st (appS s v) (.bys (.own s.toks.length) m) m := by
  have hlen := hg.len
  rcases h with ⟨rfl, rfl⟩ | ⟨i, rfl, h2, h3⟩
  · refine ⟨hg.tok1, .inr ⟨_, rfl, hlen, ?_⟩⟩
    simp [appS, St.tok1]
  · refine ⟨⟨hg.bx, hg.lp, hg.lw, ?_⟩, .inr ⟨_, rfl, hlen, ?_⟩⟩
    · show (s.toks.set i false ++ [true]).take st.toks.length = st.toks
      rw [List.take_append_of_le_length (by simpa using hlen), List.take_set_of_le h2]; exact hg.tk
    · show (s.toks.set i false ++ [true])[s.toks.length]? = some true
      rw [List.getElem?_append_right (by simp)]; simp

/-- Bytes in a box of two's middle. -/
theorem GrewAt.loops {s : St} {L' : List LoopS} (h : GrewAt B T L lo s) : GrewAt B T L' lo { s with loops := L' } := ⟨h.bx, rfl, h.lw, h.tk⟩
theorem OwnB.loops {st s : St} {v : PV} {l : List UInt8} {L' : List LoopS} (h : OwnB st s v l) : OwnB st { s with loops := L' } v l := h
/-- A slice of values, new to the caller. -/
def newSl (st : St) (esz : Nat) (xs : List PV) : PV := if xs = [] then .nils else .sl esz (.own st.toks.length) xs
def newS (st : St) (b : Bool) : St := if b then st else st.tok1
theorem lit1 {esz : Nat} {v u z : PV} (h : strip v = some u) (hc : u.cells.length = esz) : litFill esz (List.replicate 1 z) [(0, v)] = some [u] := by
  simp [litFill, h, hc]
theorem freshT_eq {s : St} : freshT s = (.own s.toks.length, s.tok1) := rfl
/-- A value of one cell. -/
def Leaf (v : PV) : Prop := v.cells = [v] ∧ leafOk v = true
theorem Leaf_by {x : PV} {l : List UInt8} (h : x.by = some l) : Leaf x := by
  rcases by_cases' h with ⟨rfl, rfl⟩ | ⟨t, rfl⟩ <;> exact ⟨rfl, rfl⟩
end Go.Ab

/-
  Ranges over functions; memory that grows.
-/
namespace Go.Ab
set_option linter.unusedVariables false
set_option linter.unusedSimpArgs false
variable {A : AP} {st : St} {e : Env}

theorem W_rangeFunc {f : Opd} {ps : List Nat} {asg body : ACode} {fid : Nat} {caps : List PV} {fn : ACFn} {Q : Ex → Env → St → Prop} (hf : f.ev e = .fn fid caps) (hA : A fid = some (.code fn))
    (h : ∃ v s1 r, call A (.fn fid caps) [.yld st.loops.length] { st with loops := st.loops ++ [recOf e ps asg body] } = some (v, s1) ∧ s1.loops[st.loops.length]? = some r ∧ r.status ≠ 1 ∧ Q r.pend e { s1 with loops := s1.loops.take st.loops.length }) :
    W A (.rangeFunc f ps asg body) e st Q := by
  obtain ⟨v, s1, r, h1, h2, h3, h4⟩ := h
  refine ⟨(r.pend, e, { s1 with loops := s1.loops.take st.loops.length }), ?_, h4⟩
  rw [ex_rangeFunc hf hA, h1]
  simp only [h2, h3, if_false]

/-- What is asked where a round ends. -/
def roundQ (k : Nat) (K : Bool → St → Prop) : Ex → Env → St → Prop := fun x _ s2 => ∃ r2, s2.loops[k]? = some r2 ∧ K (decide (x = .normal)) { s2 with loops := s2.loops.set k { r2 with status := if x = .normal then 0 else 2, pend := x } }

theorem yld_of_W {k : Nat} {args : List PV} {r : LoopS} {e1 : Env} {K : Bool → St → Prop} (hr : st.loops[k]? = some r) (hs : r.status = 0) (hl : args.length = r.params.length)
    (ha : ex A r.assign (updAll r.env r.params args) st = some (.normal, e1, st))
    (hb : W A r.body e1 { st with loops := st.loops.set k { r with status := 1 } } (roundQ k K)) : ∃ b s', call A (.yld k) args st = some (.bool b, s') ∧ K b s' := by
  obtain ⟨⟨x, e2, s2⟩, h1, r2, h2, h3⟩ := hb
  refine ⟨decide (x = .normal), _, ?_, h3⟩
  rw [call_yld hr hs hl, ha]
  simp only [hr, hs, if_true]
  rw [h1]
  simp only at h2 ⊢
  rw [h2]

theorem ex_of_W {c : ACode} {E : Env} {S : St} {x : Ex} (h : W A c e st (fun x' e' s' => x' = x ∧ e' = E ∧ s' = S)) : ex A c e st = some (x, E, S) := by
  obtain ⟨⟨x', e', s'⟩, h1, rfl, rfl, rfl⟩ := h
  exact h1
/-! ### Lists that have grown -/
theorem get_app {α : Type} {l r : List α} {k : Nat} : (l ++ r)[l.length + k]? = r[k]? := by
  rw [List.getElem?_append_right (by omega)]; congr 1; omega
theorem get_app0 {α : Type} {l r : List α} {a : α} : (l ++ a :: r)[l.length]? = some a := by simp
/-! ### Slices of values -/
def PV.vs (esz : Nat) : PV → Option (List PV)
  | .nils => some []
  | .sl e _ xs => if e = esz then some xs else none
  | _ => none
theorem vs_cases {esz : Nat} {x : PV} {xs : List PV} (h : x.vs esz = some xs) : (x = .nils ∧ xs = []) ∨ ∃ t, x = .sl esz t xs := by
  cases x <;> simp [PV.vs] at h
  · exact .inl ⟨rfl, h⟩
  · obtain ⟨rfl, rfl⟩ := h; exact .inr ⟨_, rfl⟩
theorem len_vs {esz : Nat} {x : PV} {xs : List PV} (h : x.vs esz = some xs) : lenPV false x = some (.int .i64 (xs.length : Int)) := by
  rcases vs_cases h with ⟨rfl, rfl⟩ | ⟨t, rfl⟩ <;> rfl
theorem iaddr_vs {esz : Nat} {x : PV} {xs : List PV} {k : IntKind} {c : Int} (h : x.vs esz = some xs) (h1 : 0 ≤ c) (h2 : c.toNat < xs.length) : iaddrPV esz x (.int k c) = some (.cp (xs.getD c.toNat .undef).cells) := by
  rcases vs_cases h with ⟨rfl, rfl⟩ | ⟨t, rfl⟩
  · simp at h2
  · simp [iaddrPV, intOf, h1, show c < xs.length by omega]
theorem newSl_vs {esz : Nat} {xs : List PV} : (newSl st esz xs).vs esz = some xs := by
  unfold newSl; split
  · rename_i h; rw [h]; rfl
  · simp [PV.vs]
end Go.Ab

/-
  Cuts in code; slices that live on in boxes.
-/
namespace Go.Ab
set_option linter.unusedVariables false
set_option linter.unusedSimpArgs false
variable {A : AP} {st : St} {e : Env}

/-- Code in two: what is known between. -/
theorem W_cut {a b : ACode} {Q : Ex → Env → St → Prop} (M : Env → St → Prop) (h1 : W A a e st (fun x e' s' => x = .normal ∧ M e' s')) (h2 : ∀ e' s', M e' s' → W A b e' s' Q) : W A (.seq a b) e st Q := by
  rw [qaaz]
  refine W_mono h1 ?_
  rintro x e s ⟨rfl, h⟩
  exact h2 e s h

/-- A law's call: its one result is true. -/
theorem law_of_W {f k : Nat} {args : List PV} {fn : ACFn} (hA : A f = some (.code fn)) (hr : fn.results = [.tmp k])
    (h : W A fn.body (env0 args) { st with low := st.boxes.length } (fun x e _ => (x = .normal ∨ x = .ret) ∧ e k = .bool true)) : ∃ s', call A (.fn f []) args st = some (.bool true, s') := by
  obtain ⟨⟨x, e1, st1⟩, h1, h2, h3⟩ := h
  simp only at h2 h3
  have hl : ∃ s', leave st st1 (.bool true) = (.bool true, s') := by
    unfold leave
    simp only [PV.inB, if_true]
    split
    · exact ⟨_, rfl⟩
    · exact ⟨_, rfl⟩
  obtain ⟨s', hl⟩ := hl
  refine ⟨s', ?_⟩
  have hres : resOf e1 st1 fn.results = some (.bool true) := by rw [hr]; simp [resOf, rvAll, rv1, h3, notTup, packRes]
  refine call_of_W hA ⟨(x, e1, st1), by rw [List.append_nil]; exact h1, h2, .bool true, hres, hl⟩

/-- A slice whose room is its own, or none. -/
def Live (s : St) (v : PV) (l : List UInt8) : Prop := (v = .nils ∧ l = []) ∨ ∃ i, v = .bys (.own i) l ∧ s.toks[i]? = some true
theorem Live.by {s : St} {v : PV} {l : List UInt8} (h : Live s v l) : v.by = some l := by
  rcases h with ⟨rfl, rfl⟩ | ⟨i, rfl, _⟩ <;> rfl
theorem Live.lt {s : St} {v : PV} {l : List UInt8} (h : Live s v l) {i : Nat} (hi : tokOf v = some i) : i < s.toks.length ∧ s.toks[i]? = some true := by
  rcases h with ⟨rfl, rfl⟩ | ⟨j, rfl, hj⟩
  · cases hi
  · simp only [tokOf, Option.some.injEq] at hi
    subst hi
    exact ⟨(List.getElem?_eq_some_iff.1 hj).1, hj⟩
theorem Live.tokLt {s : St} {v : PV} {l : List UInt8} (h : Live s v l) : v.tokLt s.toks.length = true := by
  rcases h with ⟨rfl, rfl⟩ | ⟨j, rfl, hj⟩
  · rfl
  · simp [PV.tokLt, Tok.lt, (List.getElem?_eq_some_iff.1 hj).1]
theorem Live.move {s s' : St} {v : PV} {l : List UInt8} (h : Live s v l) (ht : ∀ i, tokOf v = some i → s'.toks[i]? = s.toks[i]?) : Live s' v l := by
  rcases h with h | ⟨j, rfl, hj⟩
  · exact .inl h
  · exact .inr ⟨j, rfl, by rw [ht j rfl]; exact hj⟩
theorem Live.tok1 {s : St} {v : PV} {l : List UInt8} (h : Live s v l) : Live s.tok1 v l := h.move fun i hi => by
  show (s.toks ++ [true])[i]? = _
  rw [List.getElem?_append_left (h.lt hi).1]

theorem app8_live {s : St} {v y : PV} {l m : List UInt8} (h : Live s v l) (hy : src8 s y = some m) (hl : l.length + m.length ≤ room) :
    ∃ v' s', app8 s v y = some (v', s') ∧ s'.boxes = s.boxes ∧ s'.loops = s.loops ∧ s'.low = s.low ∧ Live s' v' (l ++ m) ∧ s.toks.length ≤ s'.toks.length ∧
      (∀ i, i < s.toks.length → tokOf v ≠ some i → s'.toks[i]? = s.toks[i]?) ∧ (∀ i, tokOf v' = some i → (tokOf v = some i ∧ s' = s) ∨ s.toks.length ≤ i) ∧ (m ≠ [] → tokOf v' = some s.toks.length) := by
  by_cases hm : m = []
  · subst hm
    refine ⟨v, s, ?_, rfl, rfl, rfl, by simpa using h, Nat.le_refl _, fun _ _ _ => rfl, fun i hi => .inl ⟨hi, rfl⟩, fun h => absurd rfl h⟩
    rcases h with ⟨rfl, rfl⟩ | ⟨j, rfl, hj⟩ <;> simp [app8, hy]
  · rcases h with ⟨rfl, rfl⟩ | ⟨j, rfl, hj⟩
    · simp at hl
      refine ⟨.bys (.own s.toks.length) m, s.tok1, by simp [app8, hy, hm, freshT, hl, St.tok1], rfl, rfl, rfl, .inr ⟨_, rfl, by simp [St.tok1]⟩, by simp [St.tok1], fun i hi _ => ?_, fun i hi => .inr ?_, fun _ => rfl⟩
      · show (s.toks ++ [true])[i]? = _
        rw [List.getElem?_append_left hi]
      · simp only [tokOf, Option.some.injEq] at hi; omega
    · refine ⟨.bys (.own s.toks.length) (l ++ m), ⟨s.boxes, s.toks.set j false ++ [true], s.loops, s.low⟩, by simp [app8, hy, hm, freshT, appTok, hj, hl], rfl, rfl, rfl, .inr ⟨_, rfl, by simp [List.getElem?_append_right]⟩, by simp, fun i hi hne => ?_, fun i hi => .inr ?_, fun _ => rfl⟩
      · show (s.toks.set j false ++ [true])[i]? = _
        rw [List.getElem?_append_left (by simpa using hi), List.getElem?_set_ne (fun h => hne (by rw [h]; rfl))]
      · simp only [tokOf, Option.some.injEq] at hi; omega
end Go.Ab
namespace Go.Ab
variable {A : AP} {st : St} {e : Env}
end Go.Ab

/-
  strings.Builder: what is written, and its text.
-/
namespace Go.Ab
set_option linter.unusedVariables false
set_option linter.unusedSimpArgs false
variable {P : St → Prop} {st : St} {e : Env} {s s' : St} {b : Nat} {x : PV} {l : List UInt8}

/-- A Builder in a box. -/
structure Bu (s : St) (b : Nat) (x : PV) (l : List UInt8) : Prop where
  bx : s.boxes[b]? = some [.bslot, x] ∨ s.boxes[b]? = some [.ptr b 0, x]
  lv : Live s x l

/-- What a write leaves. -/
structure BuStep (s s' : St) (b : Nat) (x x' : PV) (l' : List UInt8) : Prop where
  bx : s'.boxes = s.boxes.set b [.ptr b 0, x']
  lv : Live s' x' l'
  lp : s'.loops = s.loops
  tl : s.toks.length ≤ s'.toks.length
  tk : ∀ i, i < s.toks.length → tokOf x ≠ some i → s'.toks[i]? = s.toks[i]?
  tn : ∀ i, tokOf x' = some i → tokOf x = some i ∨ s.toks.length ≤ i
  lw : min s.low b ≤ s'.low

theorem Bu.lt (h : Bu s b x l) : b < s.boxes.length := by
  rcases h.bx with h | h <;> exact (List.getElem?_eq_some_iff.1 h).1
theorem BuStep.bu {x' : PV} {l' : List UInt8} (h : BuStep s s' b x x' l') (hb : b < s.boxes.length) : Bu s' b x' l' :=
  ⟨.inr (by rw [h.bx, List.getElem?_set_self hb]), h.lv⟩

theorem copyCheck_spec (h : Bu s b x l) : ∃ s1, primS pCopyCheck [.ptr b 0] s = some (.tup [], s1) ∧ s1 = { s with boxes := s.boxes.set b [.ptr b 0, x] } := by
  rcases h.bx with h1 | h1
  · refine ⟨_, ?_, rfl⟩
    simp [primS, pCopyCheck, h1, updS, storePV, PV.cells, PV.inB, leafOk, hasTok, tokOf, setCells]
  · refine ⟨_, ?_, rfl⟩
    have : s.boxes.set b [.ptr b 0, x] = s.boxes := by
      obtain ⟨q, r⟩ := List.getElem?_eq_some_iff.1 h1
      rw [← r]; simp
    rw [this]
    simp [primS, pCopyCheck, h1, updS]

/-- The core of a write: m is put behind; s was the caller's state, s0 is the callee's, with more tokens. -/
theorem bu_app {y : PV} {m : List UInt8} {s0 : St} (h : Live s x l) (hb : b < s.boxes.length) (hbx : s0.boxes = s.boxes.set b [.ptr b 0, x]) (hlp : s0.loops = s.loops) (htl : s.toks.length ≤ s0.toks.length) (htk : ∀ i, i < s.toks.length → s0.toks[i]? = s.toks[i]?)
    (hy : src8 s0 y = some m) (hl : l.length + m.length ≤ room) (hlow : s0.low = s.boxes.length) :
    ∃ x' s1 s2, app8 s0 x y = some (x', s1) ∧ storePV s1 1 (.ptr b 1) x' = some s2 ∧ ∀ v : PV, v.inB s.boxes.length = true → (∀ n toks, keepRes n toks v = (v, [])) → ∃ s', leave s s2 v = (v, s') ∧ BuStep s s' b x x' (l ++ m) := by
  obtain ⟨x', s1, a1, a2, a3, a4, a5, a6, a7, a8, a9⟩ := app8_live (h.move (s' := s0) fun i hi => htk i (h.lt hi).1) hy hl
  have hg : s1.boxes[b]? = some [.ptr b 0, x] := by rw [a2, hbx, List.getElem?_set_self hb]
  have hcell : x'.cells = [x'] ∧ leafOk x' = true ∧ x'.inB (b + 1) = true := by
    rcases a5 with ⟨rfl, _⟩ | ⟨i, rfl, _⟩ <;> exact ⟨rfl, rfl, rfl⟩
  have hst : storePV s1 1 (.ptr b 1) x' = some { s1 with boxes := s1.boxes.set b [.ptr b 0, x'], low := if hasTok [x'] then min s1.low b else s1.low } := by
    simp [storePV, hg, hcell.1, hcell.2.1, hcell.2.2, setCells]
  refine ⟨x', s1, _, a1, hst, fun v hv hk => ?_⟩
  have htake : (s1.boxes.set b [.ptr b 0, x']).take s.boxes.length = s.boxes.set b [.ptr b 0, x'] := by
    rw [a2, hbx, List.set_set]; apply List.take_of_length_le; simp
  have hkeep : ∀ i, i < s.toks.length → tokOf x ≠ some i → s1.toks[i]? = s.toks[i]? := fun i hi hne => by
    rw [a7 i (by omega) hne, htk i hi]
  cases ht : hasTok [x'] with
  | true =>
    have hlt : ¬ s.boxes.length ≤ min s1.low b := by omega
    refine ⟨{ boxes := s.boxes.set b [.ptr b 0, x'], toks := s1.toks, loops := s1.loops, low := min s.low (min s1.low b) }, ?_, ⟨rfl, a5, a3.trans hlp, by show s.toks.length ≤ s1.toks.length; omega, hkeep, fun i hi => ?_, ?_⟩⟩
    · simp [leave, hv, hlt, htake]
    · rcases a8 i hi with ⟨h1, _⟩ | h1
      · exact .inl h1
      · exact .inr (by omega)
    · show min s.low b ≤ min s.low (min s1.low b)
      rw [a4, hlow]; omega
  | false =>
    -- nothing that lives was stored
    have hx' : x' = .nils := by
      rcases a5 with ⟨rfl, _⟩ | ⟨i, rfl, _⟩
      · rfl
      · simp [hasTok, tokOf] at ht
    have hle : s.boxes.length ≤ s1.low := by rw [a4, hlow]; exact Nat.le_refl _
    refine ⟨{ boxes := s.boxes.set b [.ptr b 0, x'], toks := s1.toks.take s.toks.length, loops := s1.loops, low := s.low }, ?_, ⟨rfl, ?_, a3.trans hlp, ?_, fun i hi hne => ?_, fun i hi => (by rw [hx'] at hi; cases hi), ?_⟩⟩
    · simp [leave, hv, hle, htake, hk]
    · rcases a5 with ⟨h1, h2⟩ | ⟨i, h1, _⟩
      · exact .inl ⟨h1, h2⟩
      · rw [hx'] at h1; cases h1
    · simp; omega
    · show (s1.toks.take s.toks.length)[i]? = _
      rw [List.getElem?_take, if_pos hi]; exact hkeep i hi hne
    · show min s.low b ≤ s.low
      omega

theorem WriteByte_spec {c : UInt8} (h : Bu s b x l) (hl : l.length + 1 ≤ room) : ∃ x' s', call prog (.fn 57 []) [.ptr b 0, .b8 c] s = some (.nili, s') ∧ BuStep s s' b x x' (l ++ [c]) := by
  have hlt := h.lt
  obtain ⟨s1, c1, c2⟩ := copyCheck_spec (s := { s with low := s.boxes.length }) ⟨h.bx, h.lv.move fun _ _ => rfl⟩
  have hlit : lit8Fill (List.replicate 1 0) [(0, .b8 c)] = some [c] := rfl
  have ld : loadPV s1 false 1 (.ptr b 1) = some x := by simp [c2, loadPV, hlt, readCells]
  obtain ⟨x', s2, s3, a1, a2, a3⟩ := bu_app (s := s) (s0 := s1.tok1) (b := b) (y := .bys (.own s1.toks.length) [c]) (m := [c]) h.lv hlt (by rw [c2]; rfl) (by rw [c2]; rfl) (by rw [c2]; simp [St.tok1]) (fun i hi => by
    rw [c2]; show (s.toks ++ [true])[i]? = _
    rw [List.getElem?_append_left hi]) rfl (by simpa using hl) (by rw [c2]; rfl)
  obtain ⟨s', k1, k2⟩ := a3 .nili rfl (fun _ _ => rfl)
  refine ⟨x', s', call_of_W prog_57 ?_, k2⟩
  unfold F_P_strings_Builder_WriteByte; dsimp only
  have c1' : call prog (.fn 73 []) [.ptr b 0] { boxes := s.boxes, toks := s.toks, loops := s.loops, low := s.boxes.length } = some (.tup [], s1) := by
    rw [call_primS prog_73]; exact c1
  simp (maxSteps := 1000000) (disch := omega) only [c1', faddrPV, Nat.zero_add, ld, hlit, freshT_eq, a1, a2, qaaz, qabz, qacz, qadz, qaez, qafz, qagz, qahz, qaiz, qajz, qakz, qalz, qamz, qanz, evOp, qaoz, qapz, qaqz, qarz, qasz, qatz, qauz, qavz,
 ↓reduceIte, Nat.reduceEqDiff, List.nil_append, List.cons_append, List.append_nil, List.map_cons, List.map_nil, qawz, qaxz, qayz, Option.map_some, Option.map_none, qazz, qbaz, qbbz, qbcz, qbdz, qbez, qbfz, qbgz, qbhz, qbiz, qbjz, qbkz, qblz, qbmz, qbnz, qboz,
 qbpz, qbqz, qbrz, qbsz, qbtz, qbuz, qbvz, qbwz, qbxz, qbyz, qbzz, qcaz, qcbz, qccz, qcdz, qcez, qcfz, qcgz, qchz, qciz, beq_true, beq_false, Bool.not_eq_true', decide_eq_true_eq, decide_eq_false_iff_not, decide_true, decide_false,
 Int.toNat_natCast, Int.ofNat_lt, Int.ofNat_le, Int.natCast_inj, Bool.false_eq_true, Bool.true_eq_false, qcjz, List.getElem?_cons_zero, List.getElem?_cons_succ, qckz, Int.reduceToNat, Int.reduceLE, true_and, and_true, reduceCtorEq, or_false, false_or, or_true, Option.some.injEq, exists_eq_left', Bool.not_true, Bool.not_false, ne_eq, Int.reduceEq, not_true_eq_false, not_false_eq_true, Int.reduceLT, UInt8.reduceLT, UInt8.reduceLE, UInt8.reduceToNat]
  exact ⟨.nili, rfl, k1⟩

/-- The text; the room behind it is nobody's more. -/
theorem BString_spec (h : Bu s b x l) (hn : l = [] → x = .nils) (hr : l.length ≤ room) : ∃ s', call prog (.fn 59 []) [.ptr b 0] s = some (.str l, s') ∧ s'.boxes = s.boxes ∧ s'.loops = s.loops ∧ s'.low = s.low ∧ s'.toks.length = s.toks.length ∧ ∀ i, tokOf x ≠ some i → s'.toks[i]? = s.toks[i]? := by
  rw [call_primS prog_59]
  rcases h.lv with ⟨rfl, rfl⟩ | ⟨i, rfl, hi⟩
  · refine ⟨s, ?_, rfl, rfl, rfl, rfl, fun _ _ => rfl⟩
    rcases h.bx with h1 | h1 <;> simp [primS, pBuilderString, h1, updS]
  · have hl : l ≠ [] := fun h => by have := hn h; cases this
    refine ⟨{ s with toks := s.toks.set i false }, ?_, rfl, rfl, rfl, by simp, fun j hj => ?_⟩
    · rcases h.bx with h1 | h1 <;> simp [primS, pBuilderString, h1, hl, updS, hi, show ¬ room < l.length by omega]
    · rw [List.getElem?_set_ne (fun h => hj (by rw [h]; rfl))]

/-! ### A function's state that keeps what its caller has -/
structure Kept (st s : St) : Prop where
  bx : s.boxes.take st.boxes.length = st.boxes
  lp : s.loops = st.loops
  lw : st.boxes.length ≤ s.low
  tk : s.toks.take st.toks.length = st.toks

theorem Kept.start : Kept st { boxes := st.boxes, toks := st.toks, loops := st.loops, low := st.boxes.length } := ⟨by simp, rfl, Nat.le_refl _, by simp⟩
theorem Kept.bl (h : Kept st s) : st.boxes.length ≤ s.boxes.length := by
  have := congrArg List.length h.bx
  simp at this; omega
theorem Kept.tl (h : Kept st s) : st.toks.length ≤ s.toks.length := by
  have := congrArg List.length h.tk
  simp at this; omega
theorem Kept.get (h : Kept st s) {i : Nat} (hi : i < st.toks.length) : s.toks[i]? = st.toks[i]? := by
  have := congrArg (fun z => z[i]?) h.tk
  simpa [List.getElem?_take, hi] using this
theorem Kept.of {s' : St} (h : Kept st s) (hb : s'.boxes.take st.boxes.length = s.boxes.take st.boxes.length) (hl : s'.loops = s.loops) (hw : st.boxes.length ≤ s'.low) (ht : ∀ i, i < st.toks.length → s'.toks[i]? = s.toks[i]?) (hn : st.toks.length ≤ s'.toks.length) : Kept st s' :=
  ⟨hb.trans h.bx, hl.trans h.lp, hw, by
    apply List.ext_getElem?
    intro i
    rw [List.getElem?_take]
    split
    · rename_i hi
      rw [ht i hi, h.get hi]
    · rename_i hi
      rw [List.getElem?_eq_none (by omega)]⟩
theorem Kept.tok1 (h : Kept st s) : Kept st s.tok1 := h.of rfl rfl h.lw (fun i hi => by
  show (s.toks ++ [true])[i]? = _
  rw [List.getElem?_append_left (by have := h.tl; omega)]) (by have := h.tl; simp [St.tok1]; omega)
theorem Kept.leave (h : Kept st s) {v : PV} (h1 : v.inB st.boxes.length = true) (h2 : ∀ n toks, keepRes n toks v = (v, [])) : leave st s v = (v, st) := by
  have e1 := h.bx; have e2 := h.lp; have e3 := h.tk
  simp [Ab.leave, h1, h.lw, h2, e1, e2, e3]
theorem Kept.alloc {z : List PV} (h : Kept st s) : Kept st { s with boxes := s.boxes ++ [z] } := h.of (by
  have := h.bl
  rw [List.take_append_of_le_length this]) rfl h.lw (fun _ _ => rfl) h.tl
/-- A Builder of one's own is written. -/
theorem Kept.step {x' : PV} {l' : List UInt8} (h : Kept st s) (hs : BuStep s s' b x x' l') (hb : st.boxes.length ≤ b) (hm : ∀ i, tokOf x = some i → st.toks.length ≤ i) : Kept st s' ∧ ∀ i, tokOf x' = some i → st.toks.length ≤ i := by
  have htl := h.tl
  refine ⟨h.of ?_ hs.lp (by have := hs.lw; have := h.lw; omega) (fun i hi => hs.tk i (by omega) fun hh => by have := hm i hh; omega) (by have := hs.tl; omega), fun i hi => ?_⟩
  · rw [hs.bx, List.take_set_of_le hb]
  · rcases hs.tn i hi with h1 | h1
    · exact hm i h1
    · omega

theorem Kept.string (h : Kept st s) (hs : ∃ s', P s' ∧ s'.boxes = s.boxes ∧ s'.loops = s.loops ∧ s'.low = s.low ∧ s'.toks.length = s.toks.length ∧ ∀ i, tokOf x ≠ some i → s'.toks[i]? = s.toks[i]?) (hm : ∀ i, tokOf x = some i → st.toks.length ≤ i) : ∃ s', P s' ∧ Kept st s' := by
  obtain ⟨s', h0, h1, h2, h3, h4, h5⟩ := hs
  exact ⟨s', h0, h.of (by rw [h1]) h2 (by rw [h3]; exact h.lw) (fun i hi => h5 i fun hh => by have := hm i hh; omega) (by rw [h4]; exact h.tl)⟩

/-- A slice of one's own. -/
def Mine (st s : St) (v : PV) (l : List UInt8) : Prop := Live s v l ∧ ∀ t, tokOf v = some t → st.toks.length ≤ t
theorem Mine.nil : Mine st s .nils [] := ⟨.inl ⟨rfl, rfl⟩, fun t h => (by cases h)⟩
theorem Mine.by {v : PV} (h : Mine st s v l) : v.by = some l := h.1.by
theorem Mine.tok1 {v : PV} (h : Mine st s v l) : Mine st s.tok1 v l := ⟨h.1.tok1, h.2⟩
theorem Kept.app8 {v y : PV} {m : List UInt8} (hk : Kept st s) (h : Mine st s v l) (hy : src8 s y = some m) (hl : l.length + m.length ≤ room) :
    ∃ v' s', Ab.app8 s v y = some (v', s') ∧ Kept st s' ∧ Mine st s' v' (l ++ m) := by
  obtain ⟨v', s', a1, a2, a3, a4, a5, a6, a7, a8, a9⟩ := app8_live h.1 hy hl
  have htl := hk.tl
  refine ⟨v', s', a1, hk.of (by rw [a2]) a3 (by rw [a4]; exact hk.lw) (fun i hi => a7 i (by omega) fun hh => by have := h.2 i hh; omega) (by omega), a5, fun t ht => ?_⟩
  rcases a8 t ht with ⟨h1, _⟩ | h1
  · exact h.2 t h1
  · omega
/-- One byte more. -/
theorem Kept.push {v : PV} {c : UInt8} (hk : Kept st s) (h : Mine st s v l) (hl : l.length + 1 ≤ room) :
    ∃ v' s', Ab.app8 s.tok1 v (.bys (.own s.toks.length) [c]) = some (v', s') ∧ Kept st s' ∧ Mine st s' v' (l ++ [c]) :=
  hk.tok1.app8 h.tok1 rfl (by simpa using hl)
theorem lit8_1 {c : UInt8} : lit8Fill (List.replicate 1 0) [(0, .b8 c)] = some [c] := rfl
theorem lit8_2 {c d : UInt8} : lit8Fill (List.replicate 2 0) [(0, .b8 c), (1, .b8 d)] = some [c, d] := rfl
/-- What a call hands back that is no slice, no place. -/
def Flat (v : PV) : Prop := (∀ n, v.inB n = true) ∧ (∀ n toks, keepRes n toks v = (v, []))
theorem Kept.leave' (h : Kept st s) {v : PV} (hv : Flat v) : Ab.leave st s v = (v, st) := h.leave (hv.1 _) hv.2
end Go.Ab

/-
  Operations on texts; the library's and the document's searches in them.
-/
namespace Go.Ab
set_option linter.unusedVariables false
set_option linter.unusedSimpArgs false
variable {A : AP} {st : St} {e : Env}

theorem len_s {l : List UInt8} : lenPV true (.str l) = some (.int .i64 (l.length : Int)) := rfl
theorem idx_s {l : List UInt8} {k : IntKind} {c : Int} (h1 : 0 ≤ c) (h2 : c.toNat < l.length) : idxSPV (.str l) (.int k c) = some (.b8 (l.getD c.toNat 0)) := by
  simp [idxSPV, intOf, h1, show c < l.length by omega]
theorem slc_s_lo {l : List UInt8} {k : IntKind} {c : Int} (h1 : 0 ≤ c) (h2 : c.toNat ≤ l.length) : slcPV 0 (.str l) (some (.int k c)) none none = some (.str (l.drop c.toNat)) := by
  simp [slcPV, bnd, intOf, h1, show c ≤ l.length by omega]
theorem slc_s_hi {l : List UInt8} {k : IntKind} {c : Int} (h1 : 0 ≤ c) (h2 : c.toNat ≤ l.length) : slcPV 0 (.str l) none (some (.int k c)) none = some (.str (l.take c.toNat)) := by
  simp [slcPV, bnd, intOf, h1, show c ≤ l.length by omega]
theorem slc_s {l : List UInt8} {k k' : IntKind} {c d : Int} (h1 : 0 ≤ c) (h2 : c ≤ d) (h3 : d.toNat ≤ l.length) : slcPV 0 (.str l) (some (.int k c)) (some (.int k' d)) none = some (.str ((l.take d.toNat).drop c.toNat)) := by
  simp [slcPV, bnd, intOf, h1, show d ≤ l.length by omega, show 0 ≤ d by omega, show c ≤ max d 0 by omega]
theorem adds {ek : EK} {a b : List UInt8} (h : a.length + b.length ≤ 9223372036854775807) : binPV .add ek (.str a) (.str b) = some (.str (a ++ b)) := by
  simp [binPV, binS, h]

/-- Is a text a part of another one? -/
def hasB (s t : List UInt8) : Bool := decide (0 ≤ Lib.index s t)
theorem strIndex_spec {a b : List UInt8} (h : a.length < 4294967281) : call prog (.fn 82 []) [.str a, .str b] st = some (.int .i64 (Lib.index a b), st) := by
  rw [call_prim prog_82]; simp [pStrIndex, h]
theorem Index_spec {a b : List UInt8} (h : a.length < 4294967281) : call prog (.fn 76 []) [.str a, .str b] st = some (.int .i64 (Lib.index a b), st) := by
  refine call_of_W prog_76 ?_
  unfold F_strings_Index; dsimp only
  simp (maxSteps := 1000000) (disch := omega) only [strIndex_spec h, qaaz, qabz, qacz, qadz, qaez, qafz, qagz, qahz, qaiz, qajz, qakz, qalz, qamz, qanz, evOp, qaoz, qapz, qaqz, qarz, qasz, qatz, qauz, qavz,
 ↓reduceIte, Nat.reduceEqDiff, List.nil_append, List.cons_append, List.append_nil, List.map_cons, List.map_nil, qawz, qaxz, qayz, Option.map_some, Option.map_none, qazz, qbaz, qbbz, qbcz, qbdz, qbez, qbfz, qbgz, qbhz, qbiz, qbjz, qbkz, qblz, qbmz, qbnz, qboz,
 qbpz, qbqz, qbrz, qbsz, qbtz, qbuz, qbvz, qbwz, qbxz, qbyz, qbzz, qcaz, qcbz, qccz, qcdz, qcez, qcfz, qcgz, qchz, qciz, beq_true, beq_false, Bool.not_eq_true', decide_eq_true_eq, decide_eq_false_iff_not, decide_true, decide_false,
 Int.toNat_natCast, Int.ofNat_lt, Int.ofNat_le, Int.natCast_inj, Bool.false_eq_true, Bool.true_eq_false, qcjz, List.getElem?_cons_zero, List.getElem?_cons_succ, qckz, Int.reduceToNat, Int.reduceLE, true_and, and_true, reduceCtorEq, or_false, false_or, or_true, Option.some.injEq, exists_eq_left', Bool.not_true, Bool.not_false, ne_eq, Int.reduceEq, not_true_eq_false, not_false_eq_true, Int.reduceLT, UInt8.reduceLT, UInt8.reduceLE, UInt8.reduceToNat]
  exact end1 rfl Kp_int
theorem Contains_spec {a b : List UInt8} (h : a.length < 4294967281) : call prog (.fn 66 []) [.str a, .str b] st = some (.bool (hasB a b), st) := by
  refine call_of_W prog_66 ?_
  unfold F_strings_Contains; dsimp only
  simp (maxSteps := 1000000) (disch := omega) only [Index_spec h, qaaz, qabz, qacz, qadz, qaez, qafz, qagz, qahz, qaiz, qajz, qakz, qalz, qamz, qanz, evOp, qaoz, qapz, qaqz, qarz, qasz, qatz, qauz, qavz,
 ↓reduceIte, Nat.reduceEqDiff, List.nil_append, List.cons_append, List.append_nil, List.map_cons, List.map_nil, qawz, qaxz, qayz, Option.map_some, Option.map_none, qazz, qbaz, qbbz, qbcz, qbdz, qbez, qbfz, qbgz, qbhz, qbiz, qbjz, qbkz, qblz, qbmz, qbnz, qboz,
 qbpz, qbqz, qbrz, qbsz, qbtz, qbuz, qbvz, qbwz, qbxz, qbyz, qbzz, qcaz, qcbz, qccz, qcdz, qcez, qcfz, qcgz, qchz, qciz, beq_true, beq_false, Bool.not_eq_true', decide_eq_true_eq, decide_eq_false_iff_not, decide_true, decide_false,
 Int.toNat_natCast, Int.ofNat_lt, Int.ofNat_le, Int.natCast_inj, Bool.false_eq_true, Bool.true_eq_false, qcjz, List.getElem?_cons_zero, List.getElem?_cons_succ, qckz, Int.reduceToNat, Int.reduceLE, true_and, and_true, reduceCtorEq, or_false, false_or, or_true, Option.some.injEq, exists_eq_left', Bool.not_true, Bool.not_false, ne_eq, Int.reduceEq, not_true_eq_false, not_false_eq_true, Int.reduceLT, UInt8.reduceLT, UInt8.reduceLE, UInt8.reduceToNat]
  exact end1 rfl Kp_bool

theorem slHasPrefix_spec {a b : List UInt8} : call prog (.fn 79 []) [.str a, .str b] st = some (.bool (decide (b <+: a)), st) := by
  refine call_of_W prog_79 ?_
  unfold F_internal_stringslite_HasPrefix; dsimp only
  by_cases h : b.length ≤ a.length
  · simp (maxSteps := 1000000) (disch := omega) only [len_s, h, slc_s_hi, qaaz, qabz, qacz, qadz, qaez, qafz, qagz, qahz, qaiz, qajz, qakz, qalz, qamz, qanz, evOp, qaoz, qapz, qaqz, qarz, qasz, qatz, qauz, qavz,
 ↓reduceIte, Nat.reduceEqDiff, List.nil_append, List.cons_append, List.append_nil, List.map_cons, List.map_nil, qawz, qaxz, qayz, Option.map_some, Option.map_none, qazz, qbaz, qbbz, qbcz, qbdz, qbez, qbfz, qbgz, qbhz, qbiz, qbjz, qbkz, qblz, qbmz, qbnz, qboz,
 qbpz, qbqz, qbrz, qbsz, qbtz, qbuz, qbvz, qbwz, qbxz, qbyz, qbzz, qcaz, qcbz, qccz, qcdz, qcez, qcfz, qcgz, qchz, qciz, beq_true, beq_false, Bool.not_eq_true', decide_eq_true_eq, decide_eq_false_iff_not, decide_true, decide_false,
 Int.toNat_natCast, Int.ofNat_lt, Int.ofNat_le, Int.natCast_inj, Bool.false_eq_true, Bool.true_eq_false, qcjz, List.getElem?_cons_zero, List.getElem?_cons_succ, qckz, Int.reduceToNat, Int.reduceLE, true_and, and_true, reduceCtorEq, or_false, false_or, or_true, Option.some.injEq, exists_eq_left', Bool.not_true, Bool.not_false, ne_eq, Int.reduceEq, not_true_eq_false, not_false_eq_true, Int.reduceLT, UInt8.reduceLT, UInt8.reduceLE, UInt8.reduceToNat]
    rw [show decide (b <+: a) = decide (a.take b.length = b) by congr 1; rw [List.prefix_iff_eq_take]; exact propext eq_comm]
    exact end1 rfl Kp_bool
  · simp (maxSteps := 1000000) (disch := omega) only [len_s, h, qaaz, qabz, qacz, qadz, qaez, qafz, qagz, qahz, qaiz, qajz, qakz, qalz, qamz, qanz, evOp, qaoz, qapz, qaqz, qarz, qasz, qatz, qauz, qavz,
 ↓reduceIte, Nat.reduceEqDiff, List.nil_append, List.cons_append, List.append_nil, List.map_cons, List.map_nil, qawz, qaxz, qayz, Option.map_some, Option.map_none, qazz, qbaz, qbbz, qbcz, qbdz, qbez, qbfz, qbgz, qbhz, qbiz, qbjz, qbkz, qblz, qbmz, qbnz, qboz,
 qbpz, qbqz, qbrz, qbsz, qbtz, qbuz, qbvz, qbwz, qbxz, qbyz, qbzz, qcaz, qcbz, qccz, qcdz, qcez, qcfz, qcgz, qchz, qciz, beq_true, beq_false, Bool.not_eq_true', decide_eq_true_eq, decide_eq_false_iff_not, decide_true, decide_false,
 Int.toNat_natCast, Int.ofNat_lt, Int.ofNat_le, Int.natCast_inj, Bool.false_eq_true, Bool.true_eq_false, qcjz, List.getElem?_cons_zero, List.getElem?_cons_succ, qckz, Int.reduceToNat, Int.reduceLE, true_and, and_true, reduceCtorEq, or_false, false_or, or_true, Option.some.injEq, exists_eq_left', Bool.not_true, Bool.not_false, ne_eq, Int.reduceEq, not_true_eq_false, not_false_eq_true, Int.reduceLT, UInt8.reduceLT, UInt8.reduceLE, UInt8.reduceToNat]
    rw [show decide (b <+: a) = false by simp; intro hp; exact h hp.length_le]
    exact end1 rfl Kp_bool
theorem sHasPrefix_spec {a b : List UInt8} : call prog (.fn 72 []) [.str a, .str b] st = some (.bool (decide (b <+: a)), st) := by
  refine call_of_W prog_72 ?_
  unfold F_strings_HasPrefix; dsimp only
  simp (maxSteps := 1000000) (disch := omega) only [slHasPrefix_spec, qaaz, qabz, qacz, qadz, qaez, qafz, qagz, qahz, qaiz, qajz, qakz, qalz, qamz, qanz, evOp, qaoz, qapz, qaqz, qarz, qasz, qatz, qauz, qavz,
 ↓reduceIte, Nat.reduceEqDiff, List.nil_append, List.cons_append, List.append_nil, List.map_cons, List.map_nil, qawz, qaxz, qayz, Option.map_some, Option.map_none, qazz, qbaz, qbbz, qbcz, qbdz, qbez, qbfz, qbgz, qbhz, qbiz, qbjz, qbkz, qblz, qbmz, qbnz, qboz,
 qbpz, qbqz, qbrz, qbsz, qbtz, qbuz, qbvz, qbwz, qbxz, qbyz, qbzz, qcaz, qcbz, qccz, qcdz, qcez, qcfz, qcgz, qchz, qciz, beq_true, beq_false, Bool.not_eq_true', decide_eq_true_eq, decide_eq_false_iff_not, decide_true, decide_false,
 Int.toNat_natCast, Int.ofNat_lt, Int.ofNat_le, Int.natCast_inj, Bool.false_eq_true, Bool.true_eq_false, qcjz, List.getElem?_cons_zero, List.getElem?_cons_succ, qckz, Int.reduceToNat, Int.reduceLE, true_and, and_true, reduceCtorEq, or_false, false_or, or_true, Option.some.injEq, exists_eq_left', Bool.not_true, Bool.not_false, ne_eq, Int.reduceEq, not_true_eq_false, not_false_eq_true, Int.reduceLT, UInt8.reduceLT, UInt8.reduceLE, UInt8.reduceToNat]
  exact end1 rfl Kp_bool

/-- The first place from i on at which b stands in a. -/
theorem index_drop_none {a b : List UInt8} (h : ∀ i, i + b.length ≤ a.length → (a.drop i).take b.length ≠ b) : Lib.index a b = -1 := by
  apply Lib.index_none
  intro j hj
  cases hc : Lib.occAt a b j with
  | false => rfl
  | true =>
    rcases Lib.occAt_room hc with h1 | h1
    · rw [Lib.occAt_iff_take a b j h1] at hc
      exact absurd (by simpa using hc) (h j h1)
    · subst h1
      exact absurd rfl (h 0 (by simp))

theorem Has_spec {a b : List UInt8} (ha : a.length < 4611686018427387904) (hb : b.length < 4611686018427387904) : call prog (.fn 56 []) [.str a, .str b] st = some (.bool (hasB a b), st) := by
  refine call_of_W prog_56 ?_
  unfold F_posthornref04_Has; dsimp only
  simp (maxSteps := 1000000) (disch := omega) only [qaaz, qabz, qacz, qadz, qaez, qafz, qagz, qahz, qaiz, qajz, qakz, qalz, qamz, qanz, evOp, qaoz, qapz, qaqz, qarz, qasz, qatz, qauz, qavz,
 ↓reduceIte, Nat.reduceEqDiff, List.nil_append, List.cons_append, List.append_nil, List.map_cons, List.map_nil, qawz, qaxz, qayz, Option.map_some, Option.map_none, qazz, qbaz, qbbz, qbcz, qbdz, qbez, qbfz, qbgz, qbhz, qbiz, qbjz, qbkz, qblz, qbmz, qbnz, qboz,
 qbpz, qbqz, qbrz, qbsz, qbtz, qbuz, qbvz, qbwz, qbxz, qbyz, qbzz, qcaz, qcbz, qccz, qcdz, qcez, qcfz, qcgz, qchz, qciz, beq_true, beq_false, Bool.not_eq_true', decide_eq_true_eq, decide_eq_false_iff_not, decide_true, decide_false,
 Int.toNat_natCast, Int.ofNat_lt, Int.ofNat_le, Int.natCast_inj, Bool.false_eq_true, Bool.true_eq_false, qcjz, List.getElem?_cons_zero, List.getElem?_cons_succ, qckz, Int.reduceToNat, Int.reduceLE, true_and, and_true, reduceCtorEq, or_false, false_or, or_true, Option.some.injEq, exists_eq_left', Bool.not_true, Bool.not_false, ne_eq, Int.reduceEq, not_true_eq_false, not_false_eq_true, Int.reduceLT, UInt8.reduceLT, UInt8.reduceLE, UInt8.reduceToNat]
  obtain ⟨I, hI⟩ : ∃ I : Nat → Env → St → Prop, I = fun n e s => ∃ i : Nat, n = a.length + 1 - i ∧ i ≤ a.length + 1 ∧ (∀ j, j < i → (a.drop j).take b.length ≠ b) ∧ s = { boxes := st.boxes, toks := st.toks, loops := st.loops, low := st.boxes.length } ∧ e 0 = .str a ∧ e 1 = .str b ∧ e 5 = .int .i64 (i : Int) := ⟨_, rfl⟩
  refine W_loop I ?_ (n := a.length + 1) (by rw [hI]; exact ⟨0, rfl, by omega, fun j hj => by omega, rfl, rfl, rfl, rfl⟩)
  intro n e s h
  rw [hI] at h
  obtain ⟨i, rfl, hi, hn, rfl, h0, h1, h5⟩ := h
  have hadd : ∀ ek, binPV .add ek (.int .i64 (i : Int)) (.int .i64 (b.length : Int)) = some (.int .i64 ((i + b.length : Nat) : Int)) := fun ek => by
    rw [add_i (by omega) (by omega)]; simp
  by_cases hlt : i + b.length ≤ a.length
  · have hmid : (a.take (i + b.length)).drop i = (a.drop i).take b.length := by rw [List.drop_take]; simp
    by_cases hc : (a.drop i).take b.length = b
    · simp (maxSteps := 1000000) (disch := omega) only [h0, h1, h5, len_s, hadd, hlt, slc_s, hmid, eq_true hc, qaaz, qabz, qacz, qadz, qaez, qafz, qagz, qahz, qaiz, qajz, qakz, qalz, qamz, qanz, evOp, qaoz, qapz, qaqz, qarz, qasz, qatz, qauz, qavz,
 ↓reduceIte, Nat.reduceEqDiff, List.nil_append, List.cons_append, List.append_nil, List.map_cons, List.map_nil, qawz, qaxz, qayz, Option.map_some, Option.map_none, qazz, qbaz, qbbz, qbcz, qbdz, qbez, qbfz, qbgz, qbhz, qbiz, qbjz, qbkz, qblz, qbmz, qbnz, qboz,
 qbpz, qbqz, qbrz, qbsz, qbtz, qbuz, qbvz, qbwz, qbxz, qbyz, qbzz, qcaz, qcbz, qccz, qcdz, qcez, qcfz, qcgz, qchz, qciz, beq_true, beq_false, Bool.not_eq_true', decide_eq_true_eq, decide_eq_false_iff_not, decide_true, decide_false,
 Int.toNat_natCast, Int.ofNat_lt, Int.ofNat_le, Int.natCast_inj, Bool.false_eq_true, Bool.true_eq_false, qcjz, List.getElem?_cons_zero, List.getElem?_cons_succ, qckz, Int.reduceToNat, Int.reduceLE, true_and, and_true, reduceCtorEq, or_false, false_or, or_true, Option.some.injEq, exists_eq_left', Bool.not_true, Bool.not_false, ne_eq, Int.reduceEq, not_true_eq_false, not_false_eq_true, Int.reduceLT, UInt8.reduceLT, UInt8.reduceLE, UInt8.reduceToNat]
      have hocc : Lib.occAt a b i = true := by rw [Lib.occAt_iff_take a b i hlt]; simpa using hc
      have hfirst : Lib.index a b = i := by
        refine Lib.index_first (by omega) hocc (fun j hj => ?_)
        cases ho : Lib.occAt a b j with
        | false => rfl
        | true => rw [Lib.occAt_iff_take a b j (by omega)] at ho; exact absurd (by simpa using ho) (hn j hj)
      rw [show hasB a b = true by unfold hasB; rw [hfirst]; simp]
      exact end1 rfl Kp_bool
    · simp (maxSteps := 1000000) (disch := omega) only [h0, h1, h5, len_s, hadd, hlt, slc_s, hmid, hc, add_n, qaaz, qabz, qacz, qadz, qaez, qafz, qagz, qahz, qaiz, qajz, qakz, qalz, qamz, qanz, evOp, qaoz, qapz, qaqz, qarz, qasz, qatz, qauz, qavz,
 ↓reduceIte, Nat.reduceEqDiff, List.nil_append, List.cons_append, List.append_nil, List.map_cons, List.map_nil, qawz, qaxz, qayz, Option.map_some, Option.map_none, qazz, qbaz, qbbz, qbcz, qbdz, qbez, qbfz, qbgz, qbhz, qbiz, qbjz, qbkz, qblz, qbmz, qbnz, qboz,
 qbpz, qbqz, qbrz, qbsz, qbtz, qbuz, qbvz, qbwz, qbxz, qbyz, qbzz, qcaz, qcbz, qccz, qcdz, qcez, qcfz, qcgz, qchz, qciz, beq_true, beq_false, Bool.not_eq_true', decide_eq_true_eq, decide_eq_false_iff_not, decide_true, decide_false,
 Int.toNat_natCast, Int.ofNat_lt, Int.ofNat_le, Int.natCast_inj, Bool.false_eq_true, Bool.true_eq_false, qcjz, List.getElem?_cons_zero, List.getElem?_cons_succ, qckz, Int.reduceToNat, Int.reduceLE, true_and, and_true, reduceCtorEq, or_false, false_or, or_true, Option.some.injEq, exists_eq_left', Bool.not_true, Bool.not_false, ne_eq, Int.reduceEq, not_true_eq_false, not_false_eq_true, Int.reduceLT, UInt8.reduceLT, UInt8.reduceLE, UInt8.reduceToNat]
      refine loopQ_intro (m := a.length + 1 - (i + 1)) (by omega) ?_
      rw [hI]
      refine ⟨i + 1, rfl, by omega, fun j hj => ?_, rfl, h0, h1, rfl⟩
      by_cases hji : j = i
      · subst hji; exact hc
      · exact hn j (by omega)
  · simp (maxSteps := 1000000) (disch := omega) only [h0, h1, h5, len_s, hadd, hlt, qaaz, qabz, qacz, qadz, qaez, qafz, qagz, qahz, qaiz, qajz, qakz, qalz, qamz, qanz, evOp, qaoz, qapz, qaqz, qarz, qasz, qatz, qauz, qavz,
 ↓reduceIte, Nat.reduceEqDiff, List.nil_append, List.cons_append, List.append_nil, List.map_cons, List.map_nil, qawz, qaxz, qayz, Option.map_some, Option.map_none, qazz, qbaz, qbbz, qbcz, qbdz, qbez, qbfz, qbgz, qbhz, qbiz, qbjz, qbkz, qblz, qbmz, qbnz, qboz,
 qbpz, qbqz, qbrz, qbsz, qbtz, qbuz, qbvz, qbwz, qbxz, qbyz, qbzz, qcaz, qcbz, qccz, qcdz, qcez, qcfz, qcgz, qchz, qciz, beq_true, beq_false, Bool.not_eq_true', decide_eq_true_eq, decide_eq_false_iff_not, decide_true, decide_false,
 Int.toNat_natCast, Int.ofNat_lt, Int.ofNat_le, Int.natCast_inj, Bool.false_eq_true, Bool.true_eq_false, qcjz, List.getElem?_cons_zero, List.getElem?_cons_succ, qckz, Int.reduceToNat, Int.reduceLE, true_and, and_true, reduceCtorEq, or_false, false_or, or_true, Option.some.injEq, exists_eq_left', Bool.not_true, Bool.not_false, ne_eq, Int.reduceEq, not_true_eq_false, not_false_eq_true, Int.reduceLT, UInt8.reduceLT, UInt8.reduceLE, UInt8.reduceToNat]
    rw [show hasB a b = false by
      unfold hasB; rw [index_drop_none (fun j hj => hn j (by omega))]; rfl]
    exact end1 rfl Kp_bool
end Go.Ab

/-
  Names in small letters; fields of a name; how big a header is.
-/
namespace Go.Ab
set_option linter.unusedVariables false
set_option linter.unusedSimpArgs false
variable {st : St} {e : Env}

/-! ### Bytes in a box of one's own -/
end Go.Ab

/-
  Fields of a name; how big a header is.
-/
namespace Go.Ab
set_option linter.unusedVariables false
set_option linter.unusedSimpArgs false
variable {st s : St} {e : Env}

abbrev Fld := List UInt8 × List UInt8
def fV (f : Fld) : PV := .agg [.str f.1, .str f.2]
/-! ### A field in a box -/
end Go.Ab

/-
  Names and values of fields; texts without blanks at their ends.
-/
namespace Go.Ab
set_option linter.unusedVariables false
set_option linter.unusedSimpArgs false
variable {st s : St} {e : Env}

theorem all_getD {p : UInt8 → Bool} {l : List UInt8} (h : ∀ j, j < l.length → p (l.getD j 0) = true) : l.all p = true := by
  rw [List.all_eq_true]
  intro c hc
  obtain ⟨i, hi, rfl⟩ := List.mem_iff_getElem.1 hc
  have := h i hi
  simpa [List.getD, hi] using this
theorem all_bad {p : UInt8 → Bool} {l : List UInt8} {j : Nat} (hj : j < l.length) (h : p (l.getD j 0) = false) : l.all p = false := by
  rw [List.all_eq_false]
  refine ⟨l.getD j 0, ?_, by rw [h]; simp⟩
  simp [List.getD, hj]

/-! ### Blanks at the ends -/
end Go.Ab

/-
  Texts without blanks at their ends; values of fields.
-/
namespace Go.Ab
set_option linter.unusedVariables false
set_option linter.unusedSimpArgs false
variable {st s : St} {e : Env}

end Go.Ab

/-
  The document's trimming; values; small letters; fields of a name, by the document.
-/
namespace Go.Ab
set_option linter.unusedVariables false
set_option linter.unusedSimpArgs false
variable {st s : St} {e : Env}

end Go.Ab

/-
  Values of fields; small letters and fields of a name, by the document.
-/
namespace Go.Ab
set_option linter.unusedVariables false
set_option linter.unusedSimpArgs false
variable {st s : St} {e : Env}

theorem Grew.kept (h : Grew st s) : Kept st s := ⟨by rw [h.bx]; simp, h.lp, by rw [h.lw]; exact Nat.le_refl _, h.tk⟩
end Go.Ab

/-
  Addresses: plain.
-/
namespace Go.Ab
set_option linter.unusedVariables false
set_option linter.unusedSimpArgs false

abbrev Bs := List UInt8
def alnC (c : UInt8) : Bool := (decide (97 ≤ c) && decide (c ≤ 122)) || (decide (65 ≤ c) && decide (c ≤ 90)) || (decide (48 ≤ c) && decide (c ≤ 57))
def signs : Bs := [33, 35, 36, 37, 38, 39, 42, 43, 45, 47, 61, 63, 94, 95, 123, 124, 125, 126, 96]
def atC (c : UInt8) : Bool := alnC c || signs.contains c
def labC (c : UInt8) : Bool := alnC c || decide (c = 45)
/-- Name, local part, domain. -/
abbrev Adr := Bs × Bs × Bs
/-! ### Parts -/
/-! ### Small letters -/
/-! ### Signs that stand in no address -/
/-- The signs of an address's local part, and of its domain. -/
def locC (c : UInt8) : Prop := atC c = true ∨ c = 46
def domC (c : UInt8) : Prop := labC c = true ∨ c = 46
structure RightA (a : Adr) : Prop where
  lc : ∀ c ∈ a.2.1, locC c
  ln : a.2.1 ≠ []
  dc : ∀ c ∈ a.2.2, domC c
  dn : a.2.2 ≠ []
  nl : a.1.length ≤ 128
  ll : a.2.1.length ≤ 64
  dl : a.2.2.length ≤ 253
end Go.Ab

/-
  Addresses are read as they were written: plain.
-/
namespace Go.Ab
set_option linter.unusedVariables false
set_option linter.unusedSimpArgs false

/-! ### Blanks at the ends -/
/-! ### Names between quotes -/
/-! ### A text of an address -/
/-! ### Lists -/
end Go.Ab

/-
  strings.Cut.
-/
namespace Go.Ab
set_option linter.unusedVariables false
set_option linter.unusedSimpArgs false
variable {st : St} {e : Env}

end Go.Ab

/-
  Rules that part the ways of a run: each way under what it was taken for.
-/
namespace Go.Ab
set_option linter.unusedVariables false
set_option linter.unusedSimpArgs false
variable {A : AP} {st : St} {e : Env}

end Go.Ab

/-
  Signs, atoms, labels, names; parts of a text.
-/
namespace Go.Ab
set_option linter.unusedVariables false
set_option linter.unusedSimpArgs false
variable {st s : St} {e : Env}

theorem ret1 {a : Nat} {v : PV} (ha : e a = v) (hnt : notTup v = true) (hk : Kept st s) (hf : Flat v) : ∃ rv, resOf e s [.tmp a] = some rv ∧ leave st s rv = (v, st) :=
  ⟨v, by simp [resOf, rvAll, rv1, ha, hnt, packRes], hk.leave' hf⟩
theorem retB {a : Nat} {b c : Bool} (ha : e a = .bool b) (hk : Kept st s) (hb : b = c) : ∃ rv, resOf e s [.tmp a] = some rv ∧ leave st s rv = (.bool c, st) := by
  subst hb; exact ret1 ha rfl hk ⟨fun _ => rfl, fun _ _ => rfl⟩
theorem retI {a : Nat} {k : IntKind} {b c : Int} (ha : e a = .int k b) (hk : Kept st s) (hb : b = c) : ∃ rv, resOf e s [.tmp a] = some rv ∧ leave st s rv = (.int k c, st) := by
  subst hb; exact ret1 ha rfl hk ⟨fun _ => rfl, fun _ _ => rfl⟩

end Go.Ab

/-
  The calendar: plain.
-/
namespace Go.Ab
set_option linter.unusedVariables false
set_option linter.unusedSimpArgs false
set_option maxRecDepth 20000

/-- Is a year a leap year? -/
def lpY (y : Nat) : Bool := (y % 4 == 0 && y % 100 != 0) || y % 400 == 0
/-- How many days lie ahead of a year, from 1970 on. -/
def befY (y : Nat) : Nat := 365 * (y - 1970) + (y - 1) / 4 + (y - 1) / 400 - ((y - 1) / 100 + 477)
/-- How many days a month has. -/
def mdY (y m : Nat) : Nat := if m = 2 then (if lpY y then 29 else 28) else if m = 4 ∨ m = 6 ∨ m = 9 ∨ m = 11 then 30 else 31
/-- How many days of the year lie ahead of a month. -/
def cumY (y : Nat) : Nat → Nat
  | 0 => 0
  | m + 1 => cumY y m + if m = 0 then 0 else mdY y m

/-- The day n is the day d of the month m of the year y. -/
structure Ci (n y m d : Nat) : Prop where
  y1 : 1970 ≤ y
  y2 : y ≤ 9999
  m1 : 1 ≤ m
  m2 : m ≤ 12
  d1 : 1 ≤ d
  d2 : d ≤ mdY y m
  eq : n + 1 = befY y + cumY y m + d

end Go.Ab

/-
  Ids: plain.
-/
namespace Go.Ab
set_option linter.unusedVariables false
set_option linter.unusedSimpArgs false

end Go.Ab

/-
  What may be an address; its normal form; an address without a name.
-/
namespace Go.Ab
set_option linter.unusedVariables false
set_option linter.unusedSimpArgs false
variable {st s : St} {e : Env}

/-! ### Three texts in a box -/
variable {B : List (List PV)} {T : List Bool} {L : List LoopS} {lo : Nat} {a b c : Bs}
structure okA (a : Adr) : Prop where
  n : a.1.length ≤ 100000000
  l : a.2.1.length ≤ 100000000
  d : a.2.2.length ≤ 100000000

end Go.Ab

/-
  Layer 20: what must come of fixed calls; weekdays.
-/
namespace Go.Ab
set_option linter.unusedVariables false
set_option linter.unusedSimpArgs false
set_option maxRecDepth 20000
variable {st s : St} {e : Env}

theorem retV2 {a b : Nat} {v w : PV} (ha : e a = v) (hb : e b = w) (h1 : notTup v = true) (h2 : notTup w = true) (hk : Kept st s) (hf : Flat (.tup [v, w])) : ∃ rv, resOf e s [.tmp a, .tmp b] = some rv ∧ leave st s rv = (.tup [v, w], st) :=
  ⟨.tup [v, w], by simp [resOf, rvAll, rv1, ha, hb, h1, h2, packRes], hk.leave' hf⟩
theorem retTI {a b : Nat} {t u : Bs} {n m : Int} (ha : e a = .str t) (hb : e b = .int .i64 n) (hk : Kept st s) (h1 : t = u) (h2 : n = m) : ∃ rv, resOf e s [.tmp a, .tmp b] = some rv ∧ leave st s rv = (.tup [.str u, .int .i64 m], st) := by
  subst h1 h2; exact retV2 ha hb rfl rfl hk ⟨fun _ => rfl, fun _ _ => rfl⟩

theorem rem_i {k : IntKind} {ek : EK} {a : Int} {c : Int} (h : c ≠ 0) : binPV .rem ek (.int k a) (.int k c) = some (.int k (a.tmod c)) := by simp [binPV, binI, h]
theorem quo_i {ek : EK} {a : Int} {c : Int} (h : 0 < c) (h1 : -9223372036854775808 < a) (h2 : a < 9223372036854775808) : binPV .quo ek (.int .i64 a) (.int .i64 c) = some (.int .i64 (a.tdiv c)) := by
  have h3 : c ≠ 0 := by omega
  simp only [binPV, binI, reduceIte, h3, Option.some.injEq]
  have : (a.tdiv c).natAbs ≤ a.natAbs := by rw [Int.natAbs_tdiv]; exact Nat.div_le_self _ _
  rw [wrap64 (by omega) (by omega)]

end Go.Ab

/-
  Ids are written.
-/
namespace Go.Ab
set_option linter.unusedVariables false
set_option linter.unusedSimpArgs false
set_option maxRecDepth 20000
variable {st s : St} {e : Env}

end Go.Ab

/-
  Dates: two digits, names, the calendar's walk (the program's).
-/
namespace Go.Ab
set_option linter.unusedVariables false
set_option linter.unusedSimpArgs false
set_option maxRecDepth 20000
variable {st s : St} {e : Env}

theorem quo_n {ek : EK} {a c : Nat} (hc : 0 < c) (h : a < 9223372036854775808) : binPV .quo ek (.int .i64 (a : Int)) (.int .i64 (c : Int)) = some (.int .i64 ((a / c : Nat) : Int)) := by
  rw [quo_i (by omega) (by omega) (by omega)]; rfl
theorem rem_n {ek : EK} {a c : Nat} (hc : 0 < c) : binPV .rem ek (.int .i64 (a : Int)) (.int .i64 (c : Int)) = some (.int .i64 ((a % c : Nat) : Int)) := by
  rw [rem_i (by omega)]; rfl
theorem mul_n {ek : EK} {a c : Nat} (h : c * a < 9223372036854775808) : binPV .mul ek (.int .i64 (c : Int)) (.int .i64 (a : Int)) = some (.int .i64 ((c * a : Nat) : Int)) := by
  have e : (c : Int) * (a : Int) = ((c * a : Nat) : Int) := by rw [Int.natCast_mul]
  simp only [binPV, binI, reduceIte, Option.some.injEq]
  rw [e, wrap64 (by omega) (by omega)]
theorem cU8 {k : IntKind} {n : Nat} (h : n < 256) : cIntPV .u8 (.int k (n : Int)) = some (.b8 (UInt8.ofNat n)) := by
  simp only [cIntPV, Option.some.injEq]
  have : IntKind.u8.wrap (n : Int) = n := by
    unfold IntKind.wrap
    simp only [IntKind.signed, IntKind.bits]
    simp
    omega
  rw [this]; simp

end Go.Ab

/-
  A day's year, month and day: both walks.
-/
namespace Go.Ab
set_option linter.unusedVariables false
set_option linter.unusedSimpArgs false
set_option maxRecDepth 20000
variable {st s : St} {e : Env}

/-! ### The document's -/
end Go.Ab

/-
  Dates are written, both ways; the law DatePrints.
-/
namespace Go.Ab
set_option linter.unusedVariables false
set_option linter.unusedSimpArgs false
set_option maxRecDepth 20000
variable {st s : St} {e : Env}

end Go.Ab

/-
  Dates are written; the law DatePrints.
-/
namespace Go.Ab
set_option linter.unusedVariables false
set_option linter.unusedSimpArgs false
set_option maxRecDepth 20000
variable {st s : St} {e : Env}

end Go.Ab

/-
  Dates are read: small letters, digits.
-/
namespace Go.Ab
set_option linter.unusedVariables false
set_option linter.unusedSimpArgs false
set_option maxRecDepth 20000
variable {st s : St} {e : Env}

end Go.Ab

/-
  Dates are read: names, years.
-/
namespace Go.Ab
set_option linter.unusedVariables false
set_option linter.unusedSimpArgs false
set_option maxRecDepth 20000
variable {st s : St} {e : Env}

end Go.Ab

/-
  Dates are read: days, clocks, zones.
-/
namespace Go.Ab
set_option linter.unusedVariables false
set_option linter.unusedSimpArgs false
set_option maxRecDepth 20000
variable {st s : St} {e : Env}

end Go.Ab

/-
  Dates are read: clocks.
-/
namespace Go.Ab
set_option linter.unusedVariables false
set_option linter.unusedSimpArgs false
set_option maxRecDepth 20000
variable {st s : St} {e : Env}

end Go.Ab

/-
  Dates are read: zones.
-/
namespace Go.Ab
set_option linter.unusedVariables false
set_option linter.unusedSimpArgs false
set_option maxRecDepth 20000
variable {st s : St} {e : Env}

end Go.Ab

/-
  Dates are read: what stands between ( and ) is left out.
-/
namespace Go.Ab
set_option linter.unusedVariables false
set_option linter.unusedSimpArgs false
set_option maxRecDepth 20000
variable {st s : St} {e : Env} {b : Nat} {x : PV} {l : List UInt8}

end Go.Ab

/-
  Dates are read: words, plain.
-/
namespace Go.Ab
set_option linter.unusedVariables false
set_option linter.unusedSimpArgs false
set_option maxRecDepth 20000

def noBl (w : Bs) : Prop := ∀ c ∈ w, c ≠ 32 ∧ c ≠ 9

end Go.Ab

/-
  Dates are read: the iterator over words.
-/
namespace Go.Ab
set_option linter.unusedVariables false
set_option linter.unusedSimpArgs false
set_option maxRecDepth 20000
variable {st s : St} {e : Env}

end Go.Ab

/-
  Dates are read: a day's name ahead of the words, plain; a written date's words.
-/
namespace Go.Ab
set_option linter.unusedVariables false
set_option linter.unusedSimpArgs false
set_option maxRecDepth 20000

end Go.Ab

/-
  Signs of six digits, plain: written and read.
-/
namespace Go.Ab
set_option linter.unusedVariables false
set_option linter.unusedSimpArgs false
set_option maxRecDepth 20000

def sgns : Bs := [65, 66, 67, 68, 69, 70, 71, 72, 73, 74, 75, 76, 77, 78, 79, 80, 81, 82, 83, 84, 85, 86, 87, 88, 89, 90, 97, 98, 99, 100, 101, 102, 103, 104, 105, 106, 107, 108, 109, 110, 111, 112, 113, 114, 115, 116, 117, 118, 119, 120, 121, 122, 48, 49, 50, 51, 52, 53, 54, 55, 56, 57, 43, 47]
def sg (v : Nat) : UInt8 := sgns.getD v 0
/-- Bytes as signs. -/
def enc64 : Bs → Bs
  | a :: b :: c :: r => sg (a.toNat / 4) :: sg (a.toNat % 4 * 16 + b.toNat / 16) :: sg (b.toNat % 16 * 4 + c.toNat / 64) :: sg (c.toNat % 64) :: enc64 r
  | [a, b] => [sg (a.toNat / 4), sg (a.toNat % 4 * 16 + b.toNat / 16), sg (b.toNat % 16 * 4), 61]
  | [a] => [sg (a.toNat / 4), sg (a.toNat % 4 * 16), 61, 61]
  | [] => []

/-- What stands while signs are read: out, the number, how many signs, how many pads. -/
structure D6 where
  out : Bs
  v : Nat
  n : Nat
  pads : Nat
theorem enc64_len : ∀ (k : Nat) (l : Bs), l.length ≤ k → (enc64 l).length = (l.length + 2) / 3 * 4 := by
  intro k
  induction k using Nat.strongRecOn with
  | _ k ih =>
    intro l hk
    match l, hk with
    | [], _ => rfl
    | [a], _ => simp [enc64]
    | [a, b], _ => simp [enc64]
    | a :: b :: c :: r, hk =>
      simp only [List.length_cons] at hk
      simp only [enc64, List.length_cons, ih r.length (by omega) r (Nat.le_refl _)]
      omega
end Go.Ab

/-
  Layer 4: what must come of fixed calls.
-/
namespace Go.Ab
set_option linter.unusedVariables false
set_option linter.unusedSimpArgs false
set_option maxRecDepth 20000
theorem al04_0 : evV prog 2000 (.fn 221 []) [] ⟨[], [], [], 0⟩ = some (.bool true, ⟨[], [], [], 0⟩) := by kernel_rfl
end Go.Ab

/-
  Rows of one's own in a state that keeps what the caller has.
-/
namespace Go.Ab
set_option linter.unusedVariables false
set_option linter.unusedSimpArgs false
variable {st s : St} {e : Env}

/-! ### Rows of one's own in a state that keeps what the caller has -/
theorem Kept.appV {esz : Nat} {v u w : PV} {xs : List PV} (hk : Kept st s) (h : Own st s esz v xs) (hl : xs.length + 1 ≤ room) :
    ∃ v' s', Ab.appV esz s.tok1 v (.sl esz (.own s.toks.length) [u]) = some (v', s') ∧ Kept st s' ∧ Own st s' esz v' (xs ++ [u]) ∧ s'.boxes = s.boxes := by
  have hk1 := hk.tok1
  have hg : GrewAt s.tok1.boxes st.toks s.tok1.loops s.tok1.low s.tok1 := ⟨rfl, rfl, rfl, hk1.tk⟩
  have h1 := h.tok1
  obtain ⟨g2, o2⟩ := Own.app (ys := xs ++ [u]) hg h1
  refine ⟨_, _, appV_own h1 hl, ⟨?_, ?_, ?_, g2.tk⟩, o2, g2.bx⟩
  · rw [g2.bx]; exact hk1.bx
  · rw [g2.lp]; exact hk1.lp
  · rw [g2.lw]; exact hk1.lw
theorem Kept.leaveOwn1 {esz : Nat} {v : PV} {xs : List PV} (hk : Kept st s) (h : Own st s esz v xs) (hne : xs = [] → v = .nils) : Ab.leave st s v = (newSl st esz xs, newS st xs.isEmpty) := by
  have e1 := hk.bx; have e2 := hk.lp; have e3 := hk.tk
  rcases h with ⟨rfl, rfl⟩ | ⟨i, rfl, h2, h3⟩
  · simp [Ab.leave, PV.inB, hk.lw, keepRes, keepVal, keepLeaf, newSl, newS, e1, e2, e3]
  · by_cases hx : xs = []
    · have := hne hx; cases this
    · simp [Ab.leave, PV.inB, hk.lw, keepRes, keepVal, keepLeaf, keepTok, newSl, newS, hx, h3, show ¬ i < st.toks.length by omega, e1, e2, e3, St.tok1]
theorem own_nt {esz : Nat} {v : PV} {xs : List PV} (h : Own st s esz v xs) : notTup v = true := by rcases h with ⟨rfl, _⟩ | ⟨i, rfl, _⟩ <;> rfl
theorem lit_s {x : Bs} : litFill 1 (List.replicate 1 (.str [])) [(0, .str x)] = some [.str x] := rfl
end Go.Ab

/-
  Ids are read; the law DateUnlike.
-/
namespace Go.Ab
set_option linter.unusedVariables false
set_option linter.unusedSimpArgs false
set_option maxRecDepth 20000
variable {st s : St} {e : Env}

end Go.Ab

/-
  The document's addresses: parts, letters, atoms, domains.
-/
namespace Go.Ab
set_option linter.unusedVariables false
set_option linter.unusedSimpArgs false
set_option maxRecDepth 20000
variable {st s : St} {e : Env}

end Go.Ab

/-
  Words of a header: a text's words one by one; the law WordOthers.
-/
namespace Go.Ab
set_option linter.unusedVariables false
set_option linter.unusedSimpArgs false
set_option maxRecDepth 20000
variable {st s : St} {e : Env}

end Go.Ab

/-
  The law WordOthers.
-/
namespace Go.Ab
set_option linter.unusedVariables false
set_option linter.unusedSimpArgs false
set_option maxRecDepth 20000
variable {st s : St} {e : Env}

end Go.Ab

/-
  Signs of six digits: written, walked.
-/
namespace Go.Ab
set_option linter.unusedVariables false
set_option linter.unusedSimpArgs false
set_option maxRecDepth 20000
variable {st s : St} {e : Env}

theorem wrapU32 {n : Int} (h1 : 0 ≤ n) (h2 : n < 4294967296) : IntKind.u32.wrap n = n := by
  unfold IntKind.wrap
  simp only [IntKind.signed, IntKind.bits]
  simp
  omega
theorem c32 {c : UInt8} : cIntPV .u32 (.b8 c) = some (.int .u32 ((c.toNat : Nat) : Int)) := rfl
theorem shl32 {ek : EK} {p k : Nat} (hk : k ≤ 31) (h : p * 2 ^ k < 4294967296) : binPV .shl ek (.int .u32 (p : Int)) (.int .u64 (k : Int)) = some (.int .u32 ((p * 2 ^ k : Nat) : Int)) := by
  simp only [binPV, shI]
  rw [if_neg (by omega)]
  have h6 : min (k : Int).toNat IntKind.u32.bits = k := by
    show min (k : Int).toNat 32 = k
    omega
  have : (p : Int) * 2 ^ (min (k : Int).toNat IntKind.u32.bits) = ((p * 2 ^ k : Nat) : Int) := by rw [h6]; push_cast; rfl
  simp only [this]
  rw [wrapU32 (by omega) (by omega)]
theorem or32 {ek : EK} {p q k : Nat} (h : p * 2 ^ k < 4294967296) (hq : q < 2 ^ k) (hs : p * 2 ^ k + q < 4294967296) : binPV .or ek (.int .u32 ((p * 2 ^ k : Nat) : Int)) (.int .u32 (q : Int)) = some (.int .u32 ((p * 2 ^ k + q : Nat) : Int)) := by
  simp only [binPV, binI, if_true]
  have h3 : (BitVec.ofInt IntKind.u32.bits ((p * 2 ^ k : Nat) : Int) ||| BitVec.ofInt IntKind.u32.bits (q : Int)).toNat = p * 2 ^ k + q := by
    show (BitVec.ofInt 32 ((p * 2 ^ k : Nat) : Int) ||| BitVec.ofInt 32 (q : Int)).toNat = _
    rw [BitVec.ofInt_natCast, BitVec.ofInt_natCast, BitVec.toNat_or, BitVec.toNat_ofNat, BitVec.toNat_ofNat, Nat.mod_eq_of_lt (by omega), Nat.mod_eq_of_lt (by omega)]
    have := Nat.two_pow_add_eq_or_of_lt (i := k) (b := q) hq p
    rw [Nat.mul_comm] at this
    exact this.symm
  rw [h3, wrapU32 (by omega) (by omega)]
theorem shr32 {ek : EK} {k' : IntKind} {p k : Nat} (hk : k ≤ 31) : binPV .shr ek (.int .u32 (p : Int)) (.int k' (k : Int)) = some (.int .u32 ((p / 2 ^ k : Nat) : Int)) := by
  have h6 : min (k : Int).toNat IntKind.u32.bits = k := by
    show min (k : Int).toNat 32 = k
    omega
  have e1 : (p : Int).fdiv (2 ^ (min (k : Int).toNat IntKind.u32.bits)) = ((p / 2 ^ k : Nat) : Int) := by
    rw [h6, Int.fdiv_eq_ediv_of_nonneg _ (Int.le_of_lt (Int.pow_pos (by decide)))]; push_cast; rfl
  simp only [binPV, shI, e1]
  rw [if_neg (by omega)]
theorem and63w {ek : EK} {m : Nat} (h : m < 4294967296) : binPV .and ek (.int .u32 (m : Int)) (.int .u32 63) = some (.int .u32 ((m % 64 : Nat) : Int)) := by
  simp only [binPV, binI, reduceIte, Option.some.injEq]
  have e1 : (BitVec.ofInt IntKind.u32.bits (m : Int) &&& BitVec.ofInt IntKind.u32.bits 63).toNat = m % 64 := by
    rw [BitVec.toNat_and]
    have a1 : (BitVec.ofInt IntKind.u32.bits (m : Int)).toNat = m := by
      simp only [IntKind.bits, BitVec.ofInt_natCast, BitVec.toNat_ofNat]
      exact Nat.mod_eq_of_lt h
    have a2 : (BitVec.ofInt IntKind.u32.bits 63).toNat = 63 := by decide
    rw [a1, a2]
    exact Nat.and_two_pow_sub_one_eq_mod m 6
  rw [e1, wrapU32 (by omega) (by omega)]
theorem sgn_at {m : Nat} (h : m < 64) : idxSPV (.str [65, 66, 67, 68, 69, 70, 71, 72, 73, 74, 75, 76, 77, 78, 79, 80, 81, 82, 83, 84, 85, 86, 87, 88, 89, 90, 97, 98, 99, 100, 101, 102, 103, 104, 105, 106, 107, 108, 109, 110, 111, 112, 113, 114, 115, 116, 117, 118, 119, 120, 121, 122, 48, 49, 50, 51, 52, 53, 54, 55, 56, 57, 43, 47]) (.int .u32 (m : Int)) = some (.b8 (sg m)) := by
  show idxSPV (.str sgns) (.int .u32 (m : Int)) = _
  have hl : sgns.length = 64 := rfl
  simp only [idxSPV, intOf, hl]
  rw [if_pos ⟨by omega, by omega⟩, Int.toNat_natCast]
  rfl

/-- Three bytes as a number. -/
def v3 (r : Bs) : Nat := (r.getD 0 0).toNat * 2 ^ 16 + (r.getD 1 0).toNat * 2 ^ 8 + (r.getD 2 0).toNat
/-- The i-th of four signs of what stands at the front. -/
def ch4 (r : Bs) (i : Nat) : UInt8 := if i ≤ min r.length 3 then sg (v3 r / 2 ^ (18 - 6 * i) % 64) else 61
theorem v3_lt (r : Bs) : v3 r < 16777216 := by
  have h0 := (r.getD 0 0).toNat_lt; have h1 := (r.getD 1 0).toNat_lt; have h2 := (r.getD 2 0).toNat_lt
  unfold v3; omega
theorem enc64_step {r : Bs} (h : r ≠ []) : enc64 r = [ch4 r 0, ch4 r 1, ch4 r 2, ch4 r 3] ++ enc64 (r.drop 3) := by
  match r, h with
  | [a], _ =>
    have ha := a.toNat_lt
    have e0 : v3 [a] = a.toNat * 65536 := by simp [v3]
    simp only [enc64, ch4, e0, List.length_cons, List.length_nil, List.drop]
    rw [show a.toNat * 65536 / 2 ^ (18 - 6 * 0) % 64 = a.toNat / 4 by omega, show a.toNat * 65536 / 2 ^ (18 - 6 * 1) % 64 = a.toNat % 4 * 16 by omega]
    simp
  | [a, b], _ =>
    have ha := a.toNat_lt; have hb := b.toNat_lt
    have e0 : v3 [a, b] = a.toNat * 65536 + b.toNat * 256 := by simp [v3]
    simp only [enc64, ch4, e0, List.length_cons, List.length_nil, List.drop]
    rw [show (a.toNat * 65536 + b.toNat * 256) / 2 ^ (18 - 6 * 0) % 64 = a.toNat / 4 by omega, show (a.toNat * 65536 + b.toNat * 256) / 2 ^ (18 - 6 * 1) % 64 = a.toNat % 4 * 16 + b.toNat / 16 by omega,
      show (a.toNat * 65536 + b.toNat * 256) / 2 ^ (18 - 6 * 2) % 64 = b.toNat % 16 * 4 by omega]
    simp
  | a :: b :: c :: t, _ =>
    have ha := a.toNat_lt; have hb := b.toNat_lt; have hc := c.toNat_lt
    have e0 : v3 (a :: b :: c :: t) = a.toNat * 65536 + b.toNat * 256 + c.toNat := by simp [v3]
    have e1 : min (a :: b :: c :: t).length 3 = 3 := by simp
    simp only [enc64, ch4, e0, e1, List.drop]
    rw [show (a.toNat * 65536 + b.toNat * 256 + c.toNat) / 2 ^ (18 - 6 * 0) % 64 = a.toNat / 4 by omega, show (a.toNat * 65536 + b.toNat * 256 + c.toNat) / 2 ^ (18 - 6 * 1) % 64 = a.toNat % 4 * 16 + b.toNat / 16 by omega,
      show (a.toNat * 65536 + b.toNat * 256 + c.toNat) / 2 ^ (18 - 6 * 2) % 64 = b.toNat % 16 * 4 + c.toNat / 64 by omega, show (a.toNat * 65536 + b.toNat * 256 + c.toNat) / 2 ^ (18 - 6 * 3) % 64 = c.toNat % 64 by omega]
    simp
theorem three_set (r : Bs) (h : r ≠ []) : setCells [.b8 0, .b8 0, .b8 0] 0 ((r.take 3).map .b8) = [.b8 (r.getD 0 0), .b8 (r.getD 1 0), .b8 (r.getD 2 0)] := by
  match r, h with
  | [a], _ => simp [setCells]
  | [a, b], _ => simp [setCells]
  | a :: b :: c :: t, _ => simp [setCells]

theorem fits_spec {n : Nat} (h : n ≤ 1048576) : call prog (.fn 245 []) [.int .i64 (n : Int), .int .i64 0] st = some (.int .i64 0, st) := by
  refine call_of_W prog_245 ?_
  unfold F_bits_fits; dsimp only
  have r4 : binPV .rem .no (.int .i64 0) (.int .i64 4) = some (.int .i64 0) := rfl
  have e1 : ¬ ((n : Int) < 0) := by omega
  have e2 : ¬ ((1048576 : Int) < (n : Int)) := by omega
  simp (maxSteps := 1000000) (disch := omega) only [r4, e1, e2, qaaz, qabz, qacz, qadz, qaez, qafz, qagz, qahz, qaiz, qajz, qakz, qalz, qamz, qanz, evOp, qaoz, qapz, qaqz, qarz, qasz, qatz, qauz, qavz,
 ↓reduceIte, Nat.reduceEqDiff, List.nil_append, List.cons_append, List.append_nil, List.map_cons, List.map_nil, qawz, qaxz, qayz, Option.map_some, Option.map_none, qazz, qbaz, qbbz, qbcz, qbdz, qbez, qbfz, qbgz, qbhz, qbiz, qbjz, qbkz, qblz, qbmz, qbnz, qboz,
 qbpz, qbqz, qbrz, qbsz, qbtz, qbuz, qbvz, qbwz, qbxz, qbyz, qbzz, qcaz, qcbz, qccz, qcdz, qcez, qcfz, qcgz, qchz, qciz, beq_true, beq_false, Bool.not_eq_true', decide_eq_true_eq, decide_eq_false_iff_not, decide_true, decide_false,
 Int.toNat_natCast, Int.ofNat_lt, Int.ofNat_le, Int.natCast_inj, Bool.false_eq_true, Bool.true_eq_false, qcjz, List.getElem?_cons_zero, List.getElem?_cons_succ, qckz, Int.reduceToNat, Int.reduceLE, true_and, and_true, reduceCtorEq, or_false, false_or, or_true, Option.some.injEq, exists_eq_left', Bool.not_true, Bool.not_false, ne_eq, Int.reduceEq, not_true_eq_false, not_false_eq_true, Int.reduceLT, UInt8.reduceLT, UInt8.reduceLE, UInt8.reduceToNat]
  exact retI rfl Kept.start rfl
theorem Bu.alloc {b : Nat} {x : PV} {l : Bs} {z : List PV} (h : Bu s b x l) : Bu ⟨s.boxes ++ [z], s.toks, s.loops, s.low⟩ b x l := by
  have hlt := h.lt
  refine ⟨?_, h.lv.move fun _ _ => rfl⟩
  rw [List.getElem?_append_left hlt]; exact h.bx

set_option maxHeartbeats 4000000 in
theorem bEncode_spec {v : PV} {l : Bs} (hv : v.by = some l) (hl : l.length ≤ 1000000) : call prog (.fn 234 []) [v, .int .i64 0] st = some (.tup [.str (enc64 l), .int .i64 0], st) := by
  refine call_of_W prog_234 ?_
  unfold F_bits_Encode; dsimp only
  have hft := fun S : St => fits_spec (st := S) (n := l.length) (by omega)
  obtain ⟨T, hT⟩ : ∃ T, T = enc64 l := ⟨_, rfl⟩
  rw [← hT]
  simp (maxSteps := 1000000) (disch := omega) only [len_by hv, hft, allocPV, qaaz, qabz, qacz, qadz, qaez, qafz, qagz, qahz, qaiz, qajz, qakz, qalz, qamz, qanz, evOp, qaoz, qapz, qaqz, qarz, qasz, qatz, qauz, qavz,
 ↓reduceIte, Nat.reduceEqDiff, List.nil_append, List.cons_append, List.append_nil, List.map_cons, List.map_nil, qawz, qaxz, qayz, Option.map_some, Option.map_none, qazz, qbaz, qbbz, qbcz, qbdz, qbez, qbfz, qbgz, qbhz, qbiz, qbjz, qbkz, qblz, qbmz, qbnz, qboz,
 qbpz, qbqz, qbrz, qbsz, qbtz, qbuz, qbvz, qbwz, qbxz, qbyz, qbzz, qcaz, qcbz, qccz, qcdz, qcez, qcfz, qcgz, qchz, qciz, beq_true, beq_false, Bool.not_eq_true', decide_eq_true_eq, decide_eq_false_iff_not, decide_true, decide_false,
 Int.toNat_natCast, Int.ofNat_lt, Int.ofNat_le, Int.natCast_inj, Bool.false_eq_true, Bool.true_eq_false, qcjz, List.getElem?_cons_zero, List.getElem?_cons_succ, qckz, Int.reduceToNat, Int.reduceLE, true_and, and_true, reduceCtorEq, or_false, false_or, or_true, Option.some.injEq, exists_eq_left', Bool.not_true, Bool.not_false, ne_eq, Int.reduceEq, not_true_eq_false, not_false_eq_true, Int.reduceLT, UInt8.reduceLT, UInt8.reduceLE, UInt8.reduceToNat]
  obtain ⟨Q0, hQ0⟩ : ∃ Q0 : Ex → Env → St → Prop, Q0 = endQ st [.tmp 4, .tmp 5] (.tup [.str T, .int .i64 0], st) := ⟨_, rfl⟩
  rw [← hQ0]
  obtain ⟨b, hb0⟩ : ∃ b, b = st.boxes.length := ⟨_, rfl⟩
  obtain ⟨I, hI⟩ : ∃ I : Nat → Env → St → Prop, I = fun k E S => ∃ (r acc : Bs) (x y : PV) (m : Nat), k = r.length ∧ Kept st S ∧ Bu S b x acc ∧ (∀ t, tokOf x = some t → st.toks.length ≤ t) ∧ (acc = [] → x = .nils) ∧ acc.length + 4 * r.length ≤ 4 * l.length ∧ m + 4 * r.length ≤ 4 * l.length ∧ T = acc ++ enc64 r ∧ y.by = some r ∧ E 0 = y ∧ E 1 = .int .i64 0 ∧ E 7 = .ptr b 0 ∧ E 8 = .int .i64 (m : Int) := ⟨_, rfl⟩
  refine W_loop I ?_ (n := l.length) (by
    rw [hI]
    exact ⟨l, [], .nils, v, 0, rfl, Kept.start.alloc, ⟨.inl (by rw [hb0]; simp), .inl ⟨rfl, rfl⟩⟩, fun t h => (by cases h), fun _ => rfl, by simp, by omega, hT, hv, rfl, rfl, by rw [hb0]; rfl, rfl⟩)
  intro k E S hh
  rw [hI] at hh
  obtain ⟨r, acc, x, y, m, rfl, hk, hb, hm, hz, hal, hml, hTT, hy, h0, h1, h7, h8⟩ := hh
  have hroom : room = 68719476736 := rfl
  by_cases hr : r = []
  · subst hr
    have hln : lenPV false y = some (.int .i64 0) := by rw [len_by hy]; rfl
    rw [enc64, List.append_nil] at hTT
    obtain ⟨s3, b1, k3⟩ := hk.string (BString_spec hb hz (by omega)) hm
    simp (maxSteps := 1000000) (disch := omega) only [h0, h1, h7, h8, hln, b1, qaaz, qabz, qacz, qadz, qaez, qafz, qagz, qahz, qaiz, qajz, qakz, qalz, qamz, qanz, evOp, qaoz, qapz, qaqz, qarz, qasz, qatz, qauz, qavz,
 ↓reduceIte, Nat.reduceEqDiff, List.nil_append, List.cons_append, List.append_nil, List.map_cons, List.map_nil, qawz, qaxz, qayz, Option.map_some, Option.map_none, qazz, qbaz, qbbz, qbcz, qbdz, qbez, qbfz, qbgz, qbhz, qbiz, qbjz, qbkz, qblz, qbmz, qbnz, qboz,
 qbpz, qbqz, qbrz, qbsz, qbtz, qbuz, qbvz, qbwz, qbxz, qbyz, qbzz, qcaz, qcbz, qccz, qcdz, qcez, qcfz, qcgz, qchz, qciz, beq_true, beq_false, Bool.not_eq_true', decide_eq_true_eq, decide_eq_false_iff_not, decide_true, decide_false,
 Int.toNat_natCast, Int.ofNat_lt, Int.ofNat_le, Int.natCast_inj, Bool.false_eq_true, Bool.true_eq_false, qcjz, List.getElem?_cons_zero, List.getElem?_cons_succ, qckz, Int.reduceToNat, Int.reduceLE, true_and, and_true, reduceCtorEq, or_false, false_or, or_true, Option.some.injEq, exists_eq_left', Bool.not_true, Bool.not_false, ne_eq, Int.reduceEq, not_true_eq_false, not_false_eq_true, Int.reduceLT, UInt8.reduceLT, UInt8.reduceLE, UInt8.reduceToNat]
    rw [hQ0, qblz, hTT]
    exact retV2 rfl rfl rfl rfl k3 ⟨fun _ => rfl, fun _ _ => rfl⟩
  · have hpos := List.length_pos_iff.2 hr
    have hlp : (0 : Int) < (r.length : Int) := by omega
    obtain ⟨n, hn⟩ : ∃ n, n = min r.length 3 := ⟨_, rfl⟩
    have hn1 : 1 ≤ n ∧ n ≤ 3 ∧ n ≤ r.length := by omega
    obtain ⟨q, hq⟩ : ∃ q, q = S.boxes.length := ⟨_, rfl⟩
    obtain ⟨S2, hS2⟩ : ∃ S2 : St, S2 = ⟨S.boxes ++ [[.b8 (r.getD 0 0), .b8 (r.getD 1 0), .b8 (r.getD 2 0)]], S.toks, S.loops, S.low⟩ := ⟨_, rfl⟩
    have hsl : slcAPV 3 1 (.ptr q 0) none none none = some (.ms q 0 3) := by simp [slcAPV, bnd]
    have hcp : copyPV ⟨S.boxes ++ [[.b8 0, .b8 0, .b8 0]], S.toks, S.loops, S.low⟩ (.ms q 0 3) y = some (.int .i64 (n : Int), S2) := by
      have h3 := three_set r hr
      simp only [copyPV, src8_by hy]
      rw [hq, hS2, hn]
      simp only [List.map_take, List.getD_eq_getElem?_getD] at h3
      simp [h3]
    have hd : slcPV 1 y (some (.int .i64 (n : Int))) none none = some (y.dropB n) := by rw [slc_lo hy (by omega) (by omega)]; rfl
    have hdd := dropB_by (i := n) hy
    have hdn : r.drop n = r.drop 3 := by
      rcases Nat.lt_or_ge r.length 3 with h | h
      · rw [List.drop_of_length_le (by omega), List.drop_of_length_le (by omega)]
      · rw [hn, Nat.min_eq_right h]
    have hbx2 : S2.boxes[q]? = some [.b8 (r.getD 0 0), .b8 (r.getD 1 0), .b8 (r.getD 2 0)] := by rw [hS2, hq]; simp
    have p0 : iaddrAPV 3 1 (.ptr q 0) (.int .i64 0) = some (.ptr q 0) := by simp [iaddrAPV, intOf, faddrPV]
    have p1 : iaddrAPV 3 1 (.ptr q 0) (.int .i64 1) = some (.ptr q 1) := by simp [iaddrAPV, intOf, faddrPV]
    have p2 : iaddrAPV 3 1 (.ptr q 0) (.int .i64 2) = some (.ptr q 2) := by simp [iaddrAPV, intOf, faddrPV]
    have l0 : loadPV S2 false 1 (.ptr q 0) = some (.b8 (r.getD 0 0)) := by simp [loadPV, hbx2, readCells]
    have l1 : loadPV S2 false 1 (.ptr q 1) = some (.b8 (r.getD 1 0)) := by simp [loadPV, hbx2, readCells]
    have l2 : loadPV S2 false 1 (.ptr q 2) = some (.b8 (r.getD 2 0)) := by simp [loadPV, hbx2, readCells]
    have b0 := (r.getD 0 0).toNat_lt; have b1 := (r.getD 1 0).toNat_lt; have b2 := (r.getD 2 0).toNat_lt
    obtain ⟨V, hV⟩ : ∃ V, V = v3 r := ⟨_, rfl⟩
    have hVl : V < 16777216 := by rw [hV]; exact v3_lt r
    have q1 : binPV .shl .no (.int .u32 (((r.getD 0 0).toNat : Nat) : Int)) (.int .u64 16) = some (.int .u32 (((r.getD 0 0).toNat * 2 ^ 16 : Nat) : Int)) := shl32 (k := 16) (by omega) (by omega)
    have q2 : binPV .shl .no (.int .u32 (((r.getD 1 0).toNat : Nat) : Int)) (.int .u64 8) = some (.int .u32 (((r.getD 1 0).toNat * 2 ^ 8 : Nat) : Int)) := shl32 (k := 8) (by omega) (by omega)
    have q3 : binPV .or .no (.int .u32 (((r.getD 0 0).toNat * 2 ^ 16 : Nat) : Int)) (.int .u32 (((r.getD 1 0).toNat * 2 ^ 8 : Nat) : Int)) = some (.int .u32 ((((r.getD 0 0).toNat * 2 ^ 8 + (r.getD 1 0).toNat) * 2 ^ 8 : Nat) : Int)) := by
      rw [or32 (k := 16) (by omega) (by omega) (by omega)]; congr 3; omega
    have q4 : binPV .or .no (.int .u32 ((((r.getD 0 0).toNat * 2 ^ 8 + (r.getD 1 0).toNat) * 2 ^ 8 : Nat) : Int)) (.int .u32 (((r.getD 2 0).toNat : Nat) : Int)) = some (.int .u32 (V : Int)) := by
      rw [or32 (k := 8) (by omega) (by omega) (by omega), hV]; unfold v3; congr 3; omega
    have k2 : Kept st S2 := by rw [hS2]; exact hk.alloc
    have hb2 : Bu S2 b x acc := by rw [hS2]; exact hb.alloc
    rw [enc64_step hr] at hTT
    simp (maxSteps := 1000000) (disch := omega) only [h0, h1, h7, h8, len_by hy, hlp, allocPV, ← hq, hsl, hcp, hd, p0, p1, p2, l0, l1, l2, c32, q1, q2, q3, q4, qaaz, qabz, qacz, qadz, qaez, qafz, qagz, qahz, qaiz, qajz, qakz, qalz, qamz, qanz, evOp, qaoz, qapz, qaqz, qarz, qasz, qatz, qauz, qavz,
 ↓reduceIte, Nat.reduceEqDiff, List.nil_append, List.cons_append, List.append_nil, List.map_cons, List.map_nil, qawz, qaxz, qayz, Option.map_some, Option.map_none, qazz, qbaz, qbbz, qbcz, qbdz, qbez, qbfz, qbgz, qbhz, qbiz, qbjz, qbkz, qblz, qbmz, qbnz, qboz,
 qbpz, qbqz, qbrz, qbsz, qbtz, qbuz, qbvz, qbwz, qbxz, qbyz, qbzz, qcaz, qcbz, qccz, qcdz, qcez, qcfz, qcgz, qchz, qciz, beq_true, beq_false, Bool.not_eq_true', decide_eq_true_eq, decide_eq_false_iff_not, decide_true, decide_false,
 Int.toNat_natCast, Int.ofNat_lt, Int.ofNat_le, Int.natCast_inj, Bool.false_eq_true, Bool.true_eq_false, qcjz, List.getElem?_cons_zero, List.getElem?_cons_succ, qckz, Int.reduceToNat, Int.reduceLE, true_and, and_true, reduceCtorEq, or_false, false_or, or_true, Option.some.injEq, exists_eq_left', Bool.not_true, Bool.not_false, ne_eq, Int.reduceEq, not_true_eq_false, not_false_eq_true, Int.reduceLT, UInt8.reduceLT, UInt8.reduceLE, UInt8.reduceToNat]
    refine W_mono (Q := fun xx E2 S3 => xx = .exit 2 ∧ ∃ x2 : PV, Kept st S3 ∧ Bu S3 b x2 (acc ++ [ch4 r 0, ch4 r 1, ch4 r 2, ch4 r 3]) ∧ (∀ t, tokOf x2 = some t → st.toks.length ≤ t) ∧ E2 0 = y.dropB n ∧ E2 1 = .int .i64 0 ∧ E2 7 = .ptr b 0 ∧ E2 8 = .int .i64 (m : Int)) ?_ ?_
    · obtain ⟨J, hJ⟩ : ∃ J : Nat → Env → St → Prop, J = fun k E2 S3 => ∃ (i : Nat) (x2 : PV), k = 4 - i ∧ i ≤ 4 ∧ Kept st S3 ∧ Bu S3 b x2 (acc ++ (List.range i).map (ch4 r)) ∧ (∀ t, tokOf x2 = some t → st.toks.length ≤ t) ∧ E2 0 = y.dropB n ∧ E2 1 = .int .i64 0 ∧ E2 7 = .ptr b 0 ∧ E2 8 = .int .i64 (m : Int) ∧ E2 10 = .int .i64 (n : Int) ∧ E2 11 = .int .u32 (V : Int) ∧ E2 50 = .int .i64 (i : Int) := ⟨_, rfl⟩
      refine W_loop J ?_ (n := 4) (by
        rw [hJ]
        exact ⟨0, x, rfl, by omega, k2, by simpa using hb2, hm, rfl, h1, h7, h8, rfl, rfl, rfl⟩)
      intro k E2 S3 hh2
      rw [hJ] at hh2
      obtain ⟨i, x2, rfl, hi, hk3, hb3, hm3, g0, g1, g7, g8, g10, g11, g50⟩ := hh2
      by_cases hi4 : i < 4
      · have hi4' : (i : Int) < 4 := by omega
        obtain ⟨x3, S4, w1, w2⟩ := WriteByte_spec (c := ch4 r i) hb3 (by simp; omega)
        obtain ⟨k4, k5⟩ := hk3.step w2 (by omega) hm3
        have next : ∀ E3 : Env, E3 0 = y.dropB n → E3 1 = .int .i64 0 → E3 7 = .ptr b 0 → E3 8 = .int .i64 (m : Int) → E3 10 = .int .i64 (n : Int) → E3 11 = .int .u32 (V : Int) → E3 50 = .int .i64 ((i + 1 : Nat) : Int) → ∃ m, m < 4 - i ∧ J m E3 S4 := fun E3 e0 e1 e7 e8 e10 e11 e50 => by
          refine ⟨4 - (i + 1), by omega, ?_⟩
          rw [hJ]
          refine ⟨i + 1, x3, rfl, by omega, k4, ?_, k5, e0, e1, e7, e8, e10, e11, e50⟩
          have := w2.bu hb3.lt
          rw [List.range_succ, List.map_append, ← List.append_assoc]
          exact this
        by_cases hin : i ≤ n
        · have hin' : (i : Int) ≤ (n : Int) := by omega
          have m1 : binPV .mul .no (.int .i64 6) (.int .i64 (i : Int)) = some (.int .i64 ((6 * i : Nat) : Int)) := mul_n (c := 6) (by omega)
          have m2 : binPV .sub .no (.int .i64 18) (.int .i64 ((6 * i : Nat) : Int)) = some (.int .i64 ((18 - 6 * i : Nat) : Int)) := by
            rw [sub_i (by omega) (by omega)]; congr 2; omega
          have m3 : binPV .shr .no (.int .u32 (V : Int)) (.int .i64 ((18 - 6 * i : Nat) : Int)) = some (.int .u32 ((V / 2 ^ (18 - 6 * i) : Nat) : Int)) := shr32 (by omega)
          have hdv : V / 2 ^ (18 - 6 * i) ≤ V := Nat.div_le_self _ _
          have m4 : binPV .and .no (.int .u32 ((V / 2 ^ (18 - 6 * i) : Nat) : Int)) (.int .u32 63) = some (.int .u32 ((V / 2 ^ (18 - 6 * i) % 64 : Nat) : Int)) := and63w (by omega)
          have m5 := sgn_at (m := V / 2 ^ (18 - 6 * i) % 64) (Nat.mod_lt _ (by omega))
          have hch : ch4 r i = sg (V / 2 ^ (18 - 6 * i) % 64) := by unfold ch4; rw [← hn, if_pos hin, hV]
          rw [hch] at w1
          simp (maxSteps := 1000000) (disch := omega) only [g0, g1, g7, g8, g10, g11, g50, hi4', hin', m1, m2, m3, m4, m5, w1, add_n, loopQ_normal, qaaz, qabz, qacz, qadz, qaez, qafz, qagz, qahz, qaiz, qajz, qakz, qalz, qamz, qanz, evOp, qaoz, qapz, qaqz, qarz, qasz, qatz, qauz, qavz,
 ↓reduceIte, Nat.reduceEqDiff, List.nil_append, List.cons_append, List.append_nil, List.map_cons, List.map_nil, qawz, qaxz, qayz, Option.map_some, Option.map_none, qazz, qbaz, qbbz, qbcz, qbdz, qbez, qbfz, qbgz, qbhz, qbiz, qbjz, qbkz, qblz, qbmz, qbnz, qboz,
 qbpz, qbqz, qbrz, qbsz, qbtz, qbuz, qbvz, qbwz, qbxz, qbyz, qbzz, qcaz, qcbz, qccz, qcdz, qcez, qcfz, qcgz, qchz, qciz, beq_true, beq_false, Bool.not_eq_true', decide_eq_true_eq, decide_eq_false_iff_not, decide_true, decide_false,
 Int.toNat_natCast, Int.ofNat_lt, Int.ofNat_le, Int.natCast_inj, Bool.false_eq_true, Bool.true_eq_false, qcjz, List.getElem?_cons_zero, List.getElem?_cons_succ, qckz, Int.reduceToNat, Int.reduceLE, true_and, and_true, reduceCtorEq, or_false, false_or, or_true, Option.some.injEq, exists_eq_left', Bool.not_true, Bool.not_false, ne_eq, Int.reduceEq, not_true_eq_false, not_false_eq_true, Int.reduceLT, UInt8.reduceLT, UInt8.reduceLE, UInt8.reduceToNat]
          exact next _ g0 g1 g7 g8 g10 g11 rfl
        · have hin' : ¬ (i : Int) ≤ (n : Int) := by omega
          have hch : ch4 r i = 61 := by unfold ch4; rw [← hn, if_neg hin]
          rw [hch] at w1
          simp (maxSteps := 1000000) (disch := omega) only [g0, g1, g7, g8, g10, g11, g50, hi4', hin', w1, add_n, loopQ_normal, qaaz, qabz, qacz, qadz, qaez, qafz, qagz, qahz, qaiz, qajz, qakz, qalz, qamz, qanz, evOp, qaoz, qapz, qaqz, qarz, qasz, qatz, qauz, qavz,
 ↓reduceIte, Nat.reduceEqDiff, List.nil_append, List.cons_append, List.append_nil, List.map_cons, List.map_nil, qawz, qaxz, qayz, Option.map_some, Option.map_none, qazz, qbaz, qbbz, qbcz, qbdz, qbez, qbfz, qbgz, qbhz, qbiz, qbjz, qbkz, qblz, qbmz, qbnz, qboz,
 qbpz, qbqz, qbrz, qbsz, qbtz, qbuz, qbvz, qbwz, qbxz, qbyz, qbzz, qcaz, qcbz, qccz, qcdz, qcez, qcfz, qcgz, qchz, qciz, beq_true, beq_false, Bool.not_eq_true', decide_eq_true_eq, decide_eq_false_iff_not, decide_true, decide_false,
 Int.toNat_natCast, Int.ofNat_lt, Int.ofNat_le, Int.natCast_inj, Bool.false_eq_true, Bool.true_eq_false, qcjz, List.getElem?_cons_zero, List.getElem?_cons_succ, qckz, Int.reduceToNat, Int.reduceLE, true_and, and_true, reduceCtorEq, or_false, false_or, or_true, Option.some.injEq, exists_eq_left', Bool.not_true, Bool.not_false, ne_eq, Int.reduceEq, not_true_eq_false, not_false_eq_true, Int.reduceLT, UInt8.reduceLT, UInt8.reduceLE, UInt8.reduceToNat]
          exact next _ g0 g1 g7 g8 g10 g11 rfl
      · have hi4' : ¬ (i : Int) < 4 := by omega
        obtain rfl : i = 4 := by omega
        simp (maxSteps := 1000000) (disch := omega) only [g0, g1, g7, g8, g10, g11, g50, hi4', qaaz, qabz, qacz, qadz, qaez, qafz, qagz, qahz, qaiz, qajz, qakz, qalz, qamz, qanz, evOp, qaoz, qapz, qaqz, qarz, qasz, qatz, qauz, qavz,
 ↓reduceIte, Nat.reduceEqDiff, List.nil_append, List.cons_append, List.append_nil, List.map_cons, List.map_nil, qawz, qaxz, qayz, Option.map_some, Option.map_none, qazz, qbaz, qbbz, qbcz, qbdz, qbez, qbfz, qbgz, qbhz, qbiz, qbjz, qbkz, qblz, qbmz, qbnz, qboz,
 qbpz, qbqz, qbrz, qbsz, qbtz, qbuz, qbvz, qbwz, qbxz, qbyz, qbzz, qcaz, qcbz, qccz, qcdz, qcez, qcfz, qcgz, qchz, qciz, beq_true, beq_false, Bool.not_eq_true', decide_eq_true_eq, decide_eq_false_iff_not, decide_true, decide_false,
 Int.toNat_natCast, Int.ofNat_lt, Int.ofNat_le, Int.natCast_inj, Bool.false_eq_true, Bool.true_eq_false, qcjz, List.getElem?_cons_zero, List.getElem?_cons_succ, qckz, Int.reduceToNat, Int.reduceLE, true_and, and_true, reduceCtorEq, or_false, false_or, or_true, Option.some.injEq, exists_eq_left', Bool.not_true, Bool.not_false, ne_eq, Int.reduceEq, not_true_eq_false, not_false_eq_true, Int.reduceLT, UInt8.reduceLT, UInt8.reduceLE, UInt8.reduceToNat]
        exact ⟨x2, hk3, hb3, hm3⟩
    · intro xx E2 S3 hh2
      obtain ⟨rfl, x2, hk3, hb3, hm3, g0, g1, g7, g8⟩ := hh2
      simp (maxSteps := 1000000) (disch := omega) only [g0, g1, g7, g8, add_n, loopQ_normal, qaaz, qabz, qacz, qadz, qaez, qafz, qagz, qahz, qaiz, qajz, qakz, qalz, qamz, qanz, evOp, qaoz, qapz, qaqz, qarz, qasz, qatz, qauz, qavz,
 ↓reduceIte, Nat.reduceEqDiff, List.nil_append, List.cons_append, List.append_nil, List.map_cons, List.map_nil, qawz, qaxz, qayz, Option.map_some, Option.map_none, qazz, qbaz, qbbz, qbcz, qbdz, qbez, qbfz, qbgz, qbhz, qbiz, qbjz, qbkz, qblz, qbmz, qbnz, qboz,
 qbpz, qbqz, qbrz, qbsz, qbtz, qbuz, qbvz, qbwz, qbxz, qbyz, qbzz, qcaz, qcbz, qccz, qcdz, qcez, qcfz, qcgz, qchz, qciz, beq_true, beq_false, Bool.not_eq_true', decide_eq_true_eq, decide_eq_false_iff_not, decide_true, decide_false,
 Int.toNat_natCast, Int.ofNat_lt, Int.ofNat_le, Int.natCast_inj, Bool.false_eq_true, Bool.true_eq_false, qcjz, List.getElem?_cons_zero, List.getElem?_cons_succ, qckz, Int.reduceToNat, Int.reduceLE, true_and, and_true, reduceCtorEq, or_false, false_or, or_true, Option.some.injEq, exists_eq_left', Bool.not_true, Bool.not_false, ne_eq, Int.reduceEq, not_true_eq_false, not_false_eq_true, Int.reduceLT, UInt8.reduceLT, UInt8.reduceLE, UInt8.reduceToNat]
      refine ⟨(r.drop 3).length, by simp; omega, ?_⟩
      rw [hI]
      rw [hdn] at hdd
      refine ⟨r.drop 3, _, x2, y.dropB n, m + 4, rfl, hk3, hb3, hm3, fun h => by simp at h, by simp; omega, by simp; omega, by rw [hTT]; simp, hdd, g0, g1, g7, rfl⟩
end Go.Ab

/-
  Signs of six digits: read, walked.
-/
namespace Go.Ab
set_option linter.unusedVariables false
set_option linter.unusedSimpArgs false
set_option maxRecDepth 20000
variable {st s : St} {e : Env}

/-! ### A call of which something is said -/
theorem Kept.box {S : St} {z : List PV} (h : Kept st S) (hbx : S.boxes.length = st.boxes.length + 1) : Kept st ⟨st.boxes ++ [z], S.toks, S.loops, S.low⟩ := ⟨by simp, h.lp, h.lw, h.tk⟩

/-! ### A sign's number -/
end Go.Ab

/-
  Signs of six digits: read, the loop.
-/
namespace Go.Ab
set_option linter.unusedVariables false
set_option linter.unusedSimpArgs false
set_option maxRecDepth 20000
variable {st s : St} {e : Env}

structure DInv (D : D6) : Prop where
  p2 : D.pads ≤ 2
  p1 : D.pads = 1 → D.n % 4 = 3 ∨ D.n % 4 = 0
  p0 : D.pads = 2 → D.n % 4 = 0
  v0 : D.n % 4 = 0 → D.v = 0
  v1 : D.n % 4 = 1 → D.v < 64
  v2 : D.n % 4 = 2 → D.v < 4096
  v3 : D.n % 4 = 3 → D.v < 262144
theorem DInv.lt {D : D6} (h : DInv D) : D.v < 262144 := by
  have := h.v0; have := h.v1; have := h.v2; have := h.v3
  have : D.n % 4 = 0 ∨ D.n % 4 = 1 ∨ D.n % 4 = 2 ∨ D.n % 4 = 3 := by omega
  omega
/-- What the bytes that were read lie in. -/
def VO (st S : St) (D : D6) (vo : PV) : Prop := ((D.pads = 0 ∨ D.n % 4 ≠ 0) ∧ Mine st S vo D.out) ∨ ((D.pads ≠ 0 ∧ D.n % 4 = 0) ∧ vo = .bys .no D.out)
theorem VO.or {S : St} {D : D6} {vo : PV} (h : VO st S D vo) : Mine st S vo D.out ∨ vo = .bys .no D.out := by
  rcases h with ⟨_, h⟩ | ⟨_, h⟩
  · exact .inl h
  · exact .inr h

end Go.Ab

/-
  strings.HasSuffix.
-/
namespace Go.Ab
set_option linter.unusedVariables false
set_option linter.unusedSimpArgs false
variable {st s : St} {e : Env}

theorem slHasSuffix_spec {a b : Bs} (ha : a.length ≤ 9000000000000000000) : call prog (.fn 136 []) [.str a, .str b] st = some (.bool (decide (b <:+ a)), st) := by
  refine call_of_W prog_136 ?_
  unfold F_internal_stringslite_HasSuffix; dsimp only
  by_cases h : b.length ≤ a.length
  · have hsub : ∀ ek, binPV .sub ek (.int .i64 (a.length : Int)) (.int .i64 (b.length : Int)) = some (.int .i64 ((a.length - b.length : Nat) : Int)) := fun ek => by
      rw [sub_n (by omega) (by simpa using h) (by omega)]; rfl
    simp (maxSteps := 1000000) (disch := omega) only [len_s, h, hsub, slc_s_lo, qaaz, qabz, qacz, qadz, qaez, qafz, qagz, qahz, qaiz, qajz, qakz, qalz, qamz, qanz, evOp, qaoz, qapz, qaqz, qarz, qasz, qatz, qauz, qavz,
 ↓reduceIte, Nat.reduceEqDiff, List.nil_append, List.cons_append, List.append_nil, List.map_cons, List.map_nil, qawz, qaxz, qayz, Option.map_some, Option.map_none, qazz, qbaz, qbbz, qbcz, qbdz, qbez, qbfz, qbgz, qbhz, qbiz, qbjz, qbkz, qblz, qbmz, qbnz, qboz,
 qbpz, qbqz, qbrz, qbsz, qbtz, qbuz, qbvz, qbwz, qbxz, qbyz, qbzz, qcaz, qcbz, qccz, qcdz, qcez, qcfz, qcgz, qchz, qciz, beq_true, beq_false, Bool.not_eq_true', decide_eq_true_eq, decide_eq_false_iff_not, decide_true, decide_false,
 Int.toNat_natCast, Int.ofNat_lt, Int.ofNat_le, Int.natCast_inj, Bool.false_eq_true, Bool.true_eq_false, qcjz, List.getElem?_cons_zero, List.getElem?_cons_succ, qckz, Int.reduceToNat, Int.reduceLE, true_and, and_true, reduceCtorEq, or_false, false_or, or_true, Option.some.injEq, exists_eq_left', Bool.not_true, Bool.not_false, ne_eq, Int.reduceEq, not_true_eq_false, not_false_eq_true, Int.reduceLT, UInt8.reduceLT, UInt8.reduceLE, UInt8.reduceToNat]
    rw [show decide (b <:+ a) = decide (a.drop (a.length - b.length) = b) by
      congr 1; rw [List.suffix_iff_eq_drop]; exact propext eq_comm]
    exact end1 rfl Kp_bool
  · simp (maxSteps := 1000000) (disch := omega) only [len_s, h, qaaz, qabz, qacz, qadz, qaez, qafz, qagz, qahz, qaiz, qajz, qakz, qalz, qamz, qanz, evOp, qaoz, qapz, qaqz, qarz, qasz, qatz, qauz, qavz,
 ↓reduceIte, Nat.reduceEqDiff, List.nil_append, List.cons_append, List.append_nil, List.map_cons, List.map_nil, qawz, qaxz, qayz, Option.map_some, Option.map_none, qazz, qbaz, qbbz, qbcz, qbdz, qbez, qbfz, qbgz, qbhz, qbiz, qbjz, qbkz, qblz, qbmz, qbnz, qboz,
 qbpz, qbqz, qbrz, qbsz, qbtz, qbuz, qbvz, qbwz, qbxz, qbyz, qbzz, qcaz, qcbz, qccz, qcdz, qcez, qcfz, qcgz, qchz, qciz, beq_true, beq_false, Bool.not_eq_true', decide_eq_true_eq, decide_eq_false_iff_not, decide_true, decide_false,
 Int.toNat_natCast, Int.ofNat_lt, Int.ofNat_le, Int.natCast_inj, Bool.false_eq_true, Bool.true_eq_false, qcjz, List.getElem?_cons_zero, List.getElem?_cons_succ, qckz, Int.reduceToNat, Int.reduceLE, true_and, and_true, reduceCtorEq, or_false, false_or, or_true, Option.some.injEq, exists_eq_left', Bool.not_true, Bool.not_false, ne_eq, Int.reduceEq, not_true_eq_false, not_false_eq_true, Int.reduceLT, UInt8.reduceLT, UInt8.reduceLE, UInt8.reduceToNat]
    rw [show decide (b <:+ a) = false by simp; intro hp; exact h hp.length_le]
    exact end1 rfl Kp_bool
theorem HasSuffix_spec {a b : Bs} (ha : a.length ≤ 9000000000000000000) : call prog (.fn 130 []) [.str a, .str b] st = some (.bool (decide (b <:+ a)), st) := by
  refine call_of_W prog_130 ?_
  unfold F_strings_HasSuffix; dsimp only
  simp (maxSteps := 1000000) (disch := omega) only [slHasSuffix_spec ha, qaaz, qabz, qacz, qadz, qaez, qafz, qagz, qahz, qaiz, qajz, qakz, qalz, qamz, qanz, evOp, qaoz, qapz, qaqz, qarz, qasz, qatz, qauz, qavz,
 ↓reduceIte, Nat.reduceEqDiff, List.nil_append, List.cons_append, List.append_nil, List.map_cons, List.map_nil, qawz, qaxz, qayz, Option.map_some, Option.map_none, qazz, qbaz, qbbz, qbcz, qbdz, qbez, qbfz, qbgz, qbhz, qbiz, qbjz, qbkz, qblz, qbmz, qbnz, qboz,
 qbpz, qbqz, qbrz, qbsz, qbtz, qbuz, qbvz, qbwz, qbxz, qbyz, qbzz, qcaz, qcbz, qccz, qcdz, qcez, qcfz, qcgz, qchz, qciz, beq_true, beq_false, Bool.not_eq_true', decide_eq_true_eq, decide_eq_false_iff_not, decide_true, decide_false,
 Int.toNat_natCast, Int.ofNat_lt, Int.ofNat_le, Int.natCast_inj, Bool.false_eq_true, Bool.true_eq_false, qcjz, List.getElem?_cons_zero, List.getElem?_cons_succ, qckz, Int.reduceToNat, Int.reduceLE, true_and, and_true, reduceCtorEq, or_false, false_or, or_true, Option.some.injEq, exists_eq_left', Bool.not_true, Bool.not_false, ne_eq, Int.reduceEq, not_true_eq_false, not_false_eq_true, Int.reduceLT, UInt8.reduceLT, UInt8.reduceLE, UInt8.reduceToNat]
  exact end1 rfl Kp_bool

end Go.Ab

/-
  Points of Unicode as bytes: the program's answer.
-/
namespace Go.Ab
set_option linter.unusedVariables false
set_option linter.unusedSimpArgs false
variable {st s : St} {e : Env}

/-! ### Bytes and numbers -/
theorem all256 {p : UInt8 → Prop} (h : ∀ n : Fin 256, p (UInt8.ofNat n.val)) (c : UInt8) : p c := by
  have := h ⟨c.toNat, c.toNat_lt⟩
  simpa using this
theorem shr5 {ek : EK} {c : UInt8} : binPV .shr ek (.b8 c) (.int .u64 5) = some (.b8 (UInt8.ofNat (c.toNat / 32))) := by simp [binPV, sh8]
theorem shr4 {ek : EK} {c : UInt8} : binPV .shr ek (.b8 c) (.int .u64 4) = some (.b8 (UInt8.ofNat (c.toNat / 16))) := by simp [binPV, sh8]
theorem shr3 {ek : EK} {c : UInt8} : binPV .shr ek (.b8 c) (.int .u64 3) = some (.b8 (UInt8.ofNat (c.toNat / 8))) := by simp [binPV, sh8]
theorem shr6 {ek : EK} {c : UInt8} : binPV .shr ek (.b8 c) (.int .u64 6) = some (.b8 (UInt8.ofNat (c.toNat / 64))) := by simp [binPV, sh8]
theorem and_8 {ek : EK} {a b : UInt8} : binPV .and ek (.b8 a) (.b8 b) = some (.b8 (a &&& b)) := rfl
theorem cI32 {b : UInt8} : cIntPV .i32 (.b8 b) = some (.int .i32 (b.toNat : Int)) := rfl
theorem is2 (c : UInt8) : UInt8.ofNat (c.toNat / 32) = 6 ↔ 192 ≤ c.toNat ∧ c.toNat < 224 := all256 (p := fun c => UInt8.ofNat (c.toNat / 32) = 6 ↔ 192 ≤ c.toNat ∧ c.toNat < 224) (by decide +kernel) c
theorem is3 (c : UInt8) : UInt8.ofNat (c.toNat / 16) = 14 ↔ 224 ≤ c.toNat ∧ c.toNat < 240 := all256 (p := fun c => UInt8.ofNat (c.toNat / 16) = 14 ↔ 224 ≤ c.toNat ∧ c.toNat < 240) (by decide +kernel) c
theorem is4 (c : UInt8) : UInt8.ofNat (c.toNat / 8) = 30 ↔ 240 ≤ c.toNat ∧ c.toNat < 248 := all256 (p := fun c => UInt8.ofNat (c.toNat / 8) = 30 ↔ 240 ≤ c.toNat ∧ c.toNat < 248) (by decide +kernel) c
theorem isC (c : UInt8) : UInt8.ofNat (c.toNat / 64) = 2 ↔ 128 ≤ c.toNat ∧ c.toNat < 192 := all256 (p := fun c => UInt8.ofNat (c.toNat / 64) = 2 ↔ 128 ≤ c.toNat ∧ c.toNat < 192) (by decide +kernel) c
theorem and31 (c : UInt8) : (c &&& 31).toNat = c.toNat % 32 := all256 (p := fun c => (c &&& 31).toNat = c.toNat % 32) (by decide +kernel) c
theorem and15 (c : UInt8) : (c &&& 15).toNat = c.toNat % 16 := all256 (p := fun c => (c &&& 15).toNat = c.toNat % 16) (by decide +kernel) c
theorem and7 (c : UInt8) : (c &&& 7).toNat = c.toNat % 8 := all256 (p := fun c => (c &&& 7).toNat = c.toNat % 8) (by decide +kernel) c
theorem and63 (c : UInt8) : (c &&& 63).toNat = c.toNat % 64 := all256 (p := fun c => (c &&& 63).toNat = c.toNat % 64) (by decide +kernel) c
theorem wrap32 {n : Int} (h1 : -2147483648 ≤ n) (h2 : n < 2147483648) : IntKind.i32.wrap n = n := by
  unfold IntKind.wrap
  simp only [IntKind.signed, IntKind.bits]
  simp
  omega
theorem shl6 {ek : EK} {p : Nat} (h : p < 33554432) : binPV .shl ek (.int .i32 (p : Int)) (.int .u64 6) = some (.int .i32 ((64 * p : Nat) : Int)) := by
  simp only [binPV, shI]
  rw [if_neg (by omega)]
  have : (p : Int) * 2 ^ (min (6 : Int).toNat IntKind.i32.bits) = ((64 * p : Nat) : Int) := by
    have h6 : min (6 : Int).toNat IntKind.i32.bits = 6 := by decide
    rw [h6]; push_cast; omega
  simp only [this]
  rw [wrap32 (by omega) (by omega)]
theorem or_i32 {ek : EK} {p q : Nat} (h : p < 33554432) (hq : q < 64) : binPV .or ek (.int .i32 ((64 * p : Nat) : Int)) (.int .i32 (q : Int)) = some (.int .i32 ((64 * p + q : Nat) : Int)) := by
  simp only [binPV, binI, if_true]
  have h3 : (BitVec.ofInt IntKind.i32.bits ((64 * p : Nat) : Int) ||| BitVec.ofInt IntKind.i32.bits (q : Int)).toNat = 64 * p + q := by
    show (BitVec.ofInt 32 ((64 * p : Nat) : Int) ||| BitVec.ofInt 32 (q : Int)).toNat = _
    rw [BitVec.ofInt_natCast, BitVec.ofInt_natCast, BitVec.toNat_or, BitVec.toNat_ofNat, BitVec.toNat_ofNat, Nat.mod_eq_of_lt (by omega), Nat.mod_eq_of_lt (by omega)]
    have := Nat.two_pow_add_eq_or_of_lt (i := 6) (b := q) (by omega) p
    rw [show (2 : Nat) ^ 6 = 64 from rfl] at this
    exact this.symm
  rw [h3, wrap32 (by omega) (by omega)]

/-! ### The point that stands at the front -/
def lead (c : Nat) : Nat × Nat := if 192 ≤ c ∧ c < 224 then (c % 32, 2) else if 224 ≤ c ∧ c < 240 then (c % 16, 3) else if 240 ≤ c ∧ c < 248 then (c % 8, 4) else (0, 0)
def accP (l : List UInt8) (p : Nat) : Nat → Nat
  | 0 => p
  | k + 1 => 64 * accP l p k + (l.getD (k + 1) 0).toNat % 64
def contB (l : List UInt8) (k : Nat) : Prop := ∀ j, j < k → 128 ≤ (l.getD (j + 1) 0).toNat ∧ (l.getD (j + 1) 0).toNat < 192
instance {l : List UInt8} {k : Nat} : Decidable (contB l k) := by unfold contB; infer_instance
def pointN (q : Nat) : Prop := q < 55296 ∨ (57343 < q ∧ q ≤ 1114111)
instance {q : Nat} : Decidable (pointN q) := by unfold pointN; infer_instance
def lowN (n : Nat) : Nat := if n = 2 then 128 else if n = 3 then 2048 else 65536
def nextOf (l : List UInt8) : Option (Nat × Nat) :=
  if l = [] then none else if (l.getD 0 0).toNat < 128 then some ((l.getD 0 0).toNat, 1) else
    let r := lead (l.getD 0 0).toNat
    if r.2 = 0 ∨ l.length < r.2 ∨ ¬ contB l (r.2 - 1) ∨ ¬ pointN (accP l r.1 (r.2 - 1)) ∨ accP l r.1 (r.2 - 1) < lowN r.2 then none else some (accP l r.1 (r.2 - 1), r.2)
def nextV (l : List UInt8) : PV := match nextOf l with
  | some (p, n) => .tup [.int .i32 (p : Int), .int .i64 (n : Int), .int .i64 0]
  | none => .tup [.int .i32 0, .int .i64 0, .int .i64 (if l = [] then 42 else 20)]
theorem nextV_some {l : List UInt8} {p n : Nat} (h : nextOf l = some (p, n)) : nextV l = .tup [.int .i32 (p : Int), .int .i64 (n : Int), .int .i64 0] := by simp [nextV, h]
theorem nextV_none {l : List UInt8} (h : nextOf l = none) (hl : l ≠ []) : nextV l = .tup [.int .i32 0, .int .i64 0, .int .i64 20] := by simp [nextV, h, hl]

theorem isPoint_spec {p : Nat} : call prog (.fn 83 []) [.int .i32 (p : Int)] st = some (.bool (decide (pointN p)), st) := by
  refine call_of_W prog_83 ?_
  unfold F_utf_isPoint; dsimp only
  have e0 : (0 : Int) ≤ (p : Int) := by omega
  by_cases h1 : p ≤ 1114111
  · have e1 : (p : Int) ≤ 1114111 := by omega
    by_cases h2 : p < 55296
    · have e2 : (p : Int) < 55296 := by omega
      simp (maxSteps := 1000000) (disch := omega) only [e0, e1, e2, qaaz, qabz, qacz, qadz, qaez, qafz, qagz, qahz, qaiz, qajz, qakz, qalz, qamz, qanz, evOp, qaoz, qapz, qaqz, qarz, qasz, qatz, qauz, qavz,
 ↓reduceIte, Nat.reduceEqDiff, List.nil_append, List.cons_append, List.append_nil, List.map_cons, List.map_nil, qawz, qaxz, qayz, Option.map_some, Option.map_none, qazz, qbaz, qbbz, qbcz, qbdz, qbez, qbfz, qbgz, qbhz, qbiz, qbjz, qbkz, qblz, qbmz, qbnz, qboz,
 qbpz, qbqz, qbrz, qbsz, qbtz, qbuz, qbvz, qbwz, qbxz, qbyz, qbzz, qcaz, qcbz, qccz, qcdz, qcez, qcfz, qcgz, qchz, qciz, beq_true, beq_false, Bool.not_eq_true', decide_eq_true_eq, decide_eq_false_iff_not, decide_true, decide_false,
 Int.toNat_natCast, Int.ofNat_lt, Int.ofNat_le, Int.natCast_inj, Bool.false_eq_true, Bool.true_eq_false, qcjz, List.getElem?_cons_zero, List.getElem?_cons_succ, qckz, Int.reduceToNat, Int.reduceLE, true_and, and_true, reduceCtorEq, or_false, false_or, or_true, Option.some.injEq, exists_eq_left', Bool.not_true, Bool.not_false, ne_eq, Int.reduceEq, not_true_eq_false, not_false_eq_true, Int.reduceLT, UInt8.reduceLT, UInt8.reduceLE, UInt8.reduceToNat]
      rw [show decide (pointN p) = true by simp [pointN, h2]]
      exact end1 rfl Kp_bool
    · have e2 : ¬ (p : Int) < 55296 := by omega
      by_cases h3 : 57343 < p
      · have e3 : (57343 : Int) < (p : Int) := by omega
        simp (maxSteps := 1000000) (disch := omega) only [e0, e1, e2, e3, qaaz, qabz, qacz, qadz, qaez, qafz, qagz, qahz, qaiz, qajz, qakz, qalz, qamz, qanz, evOp, qaoz, qapz, qaqz, qarz, qasz, qatz, qauz, qavz,
 ↓reduceIte, Nat.reduceEqDiff, List.nil_append, List.cons_append, List.append_nil, List.map_cons, List.map_nil, qawz, qaxz, qayz, Option.map_some, Option.map_none, qazz, qbaz, qbbz, qbcz, qbdz, qbez, qbfz, qbgz, qbhz, qbiz, qbjz, qbkz, qblz, qbmz, qbnz, qboz,
 qbpz, qbqz, qbrz, qbsz, qbtz, qbuz, qbvz, qbwz, qbxz, qbyz, qbzz, qcaz, qcbz, qccz, qcdz, qcez, qcfz, qcgz, qchz, qciz, beq_true, beq_false, Bool.not_eq_true', decide_eq_true_eq, decide_eq_false_iff_not, decide_true, decide_false,
 Int.toNat_natCast, Int.ofNat_lt, Int.ofNat_le, Int.natCast_inj, Bool.false_eq_true, Bool.true_eq_false, qcjz, List.getElem?_cons_zero, List.getElem?_cons_succ, qckz, Int.reduceToNat, Int.reduceLE, true_and, and_true, reduceCtorEq, or_false, false_or, or_true, Option.some.injEq, exists_eq_left', Bool.not_true, Bool.not_false, ne_eq, Int.reduceEq, not_true_eq_false, not_false_eq_true, Int.reduceLT, UInt8.reduceLT, UInt8.reduceLE, UInt8.reduceToNat]
        rw [show decide (pointN p) = true by simp [pointN, h3, h1]]
        exact end1 rfl Kp_bool
      · have e3 : ¬ (57343 : Int) < (p : Int) := by omega
        simp (maxSteps := 1000000) (disch := omega) only [e0, e1, e2, e3, qaaz, qabz, qacz, qadz, qaez, qafz, qagz, qahz, qaiz, qajz, qakz, qalz, qamz, qanz, evOp, qaoz, qapz, qaqz, qarz, qasz, qatz, qauz, qavz,
 ↓reduceIte, Nat.reduceEqDiff, List.nil_append, List.cons_append, List.append_nil, List.map_cons, List.map_nil, qawz, qaxz, qayz, Option.map_some, Option.map_none, qazz, qbaz, qbbz, qbcz, qbdz, qbez, qbfz, qbgz, qbhz, qbiz, qbjz, qbkz, qblz, qbmz, qbnz, qboz,
 qbpz, qbqz, qbrz, qbsz, qbtz, qbuz, qbvz, qbwz, qbxz, qbyz, qbzz, qcaz, qcbz, qccz, qcdz, qcez, qcfz, qcgz, qchz, qciz, beq_true, beq_false, Bool.not_eq_true', decide_eq_true_eq, decide_eq_false_iff_not, decide_true, decide_false,
 Int.toNat_natCast, Int.ofNat_lt, Int.ofNat_le, Int.natCast_inj, Bool.false_eq_true, Bool.true_eq_false, qcjz, List.getElem?_cons_zero, List.getElem?_cons_succ, qckz, Int.reduceToNat, Int.reduceLE, true_and, and_true, reduceCtorEq, or_false, false_or, or_true, Option.some.injEq, exists_eq_left', Bool.not_true, Bool.not_false, ne_eq, Int.reduceEq, not_true_eq_false, not_false_eq_true, Int.reduceLT, UInt8.reduceLT, UInt8.reduceLE, UInt8.reduceToNat]
        rw [show decide (pointN p) = false from decide_eq_false (by unfold pointN; omega)]
        exact end1 rfl Kp_bool
  · have e1 : ¬ (p : Int) ≤ 1114111 := by omega
    simp (maxSteps := 1000000) (disch := omega) only [e0, e1, qaaz, qabz, qacz, qadz, qaez, qafz, qagz, qahz, qaiz, qajz, qakz, qalz, qamz, qanz, evOp, qaoz, qapz, qaqz, qarz, qasz, qatz, qauz, qavz,
 ↓reduceIte, Nat.reduceEqDiff, List.nil_append, List.cons_append, List.append_nil, List.map_cons, List.map_nil, qawz, qaxz, qayz, Option.map_some, Option.map_none, qazz, qbaz, qbbz, qbcz, qbdz, qbez, qbfz, qbgz, qbhz, qbiz, qbjz, qbkz, qblz, qbmz, qbnz, qboz,
 qbpz, qbqz, qbrz, qbsz, qbtz, qbuz, qbvz, qbwz, qbxz, qbyz, qbzz, qcaz, qcbz, qccz, qcdz, qcez, qcfz, qcgz, qchz, qciz, beq_true, beq_false, Bool.not_eq_true', decide_eq_true_eq, decide_eq_false_iff_not, decide_true, decide_false,
 Int.toNat_natCast, Int.ofNat_lt, Int.ofNat_le, Int.natCast_inj, Bool.false_eq_true, Bool.true_eq_false, qcjz, List.getElem?_cons_zero, List.getElem?_cons_succ, qckz, Int.reduceToNat, Int.reduceLE, true_and, and_true, reduceCtorEq, or_false, false_or, or_true, Option.some.injEq, exists_eq_left', Bool.not_true, Bool.not_false, ne_eq, Int.reduceEq, not_true_eq_false, not_false_eq_true, Int.reduceLT, UInt8.reduceLT, UInt8.reduceLE, UInt8.reduceToNat]
    rw [show decide (pointN p) = false from decide_eq_false (by unfold pointN; omega)]
    exact end1 rfl Kp_bool

theorem accP_lt {l : List UInt8} {p : Nat} : ∀ k, accP l p k < (p + 1) * 64 ^ k := by
  intro k
  induction k with
  | zero => simp [accP]
  | succ k ih =>
    simp only [accP, Nat.pow_succ]
    have := Nat.mod_lt (l.getD (k + 1) 0).toNat (show 64 > 0 by omega)
    rw [← Nat.mul_assoc]
    generalize (p + 1) * 64 ^ k = z at *
    omega
theorem lead_cases (c : Nat) : lead c = (0, 0) ∨ (lead c = (c % 32, 2)) ∨ (lead c = (c % 16, 3)) ∨ (lead c = (c % 8, 4)) := by
  unfold lead
  split
  · exact .inr (.inl rfl)
  · split
    · exact .inr (.inr (.inl rfl))
    · split
      · exact .inr (.inr (.inr rfl))
      · exact .inl rfl
end Go.Ab
