/- Part of a proof about given Go functions: contracts of functions, or plain laws. -/
import Derived.Test.YtlhddgkbbdfacaaDoorS5
import Derived.Test.YtlhddgkbbdfacaaDoorS4
/- Digests of short texts. -/
set_option maxRecDepth 20000
namespace Go.Sha
abbrev bv (n : Nat) : W := BitVec.ofNat 32 n
def tz0T : List UInt8 := [1, 3, 1, 1, 0, 1, 1, 0, 1, 32, 0, 0, 0, 0, 0, 0, 0, 0, 0, 0, 0, 0, 0, 0, 0, 0, 0, 0, 0, 0, 0, 0, 0, 0, 0, 0, 0, 0, 0, 0, 0, 0]
def tz0W : List W := [bv 16974081, bv 65792, bv 18874368, bv 0, bv 0, bv 0, bv 0, bv 0, bv 0, bv 0, bv 32768, bv 0, bv 0, bv 0, bv 0, bv 336, bv 1094918947, bv 11125064, bv 4144339009, bv 3633130033, bv 2132083716, bv 812184605, bv 580744825, bv 2781103911, bv 379900808, bv 3261333644, bv 3426634467, bv 4286342274, bv 478643239, bv 3784078785, bv 2024313729, bv 1365751604, bv 1067206805, bv 4117745046, bv 3590759715, bv 1517765518, bv 3893104032, bv 2654658503, bv 1168015564, bv 1069095080, bv 2658068355, bv 2489377506, bv 3640492346, bv 19966803, bv 2916178463, bv 2431828126, bv 3456905470, bv 1744389106, bv 846398644, bv 1278213266, bv 2165367959, bv 1774888390, bv 318966938, bv 2727647417, bv 2803150506, bv 4271981630, bv 2623872729, bv 2935606632, bv 4232691817, bv 1875711808, bv 3347374179, bv 1237149343, bv 1904620109, bv 3539210110]
def tz0B : List UInt8 := [1, 3, 1, 1, 0, 1, 1, 0, 1, 32, 0, 0, 0, 0, 0, 0, 0, 0, 0, 0, 0, 0, 0, 0, 0, 0, 0, 0, 0, 0, 0, 0, 0, 0, 0, 0, 0, 0, 0, 0, 0, 0, 128, 0, 0, 0, 0, 0, 0, 0, 0, 0, 0, 0, 0, 0, 0, 0, 0, 0, 0, 0, 1, 80]
theorem tz0_b : ((pad tz0T).drop (64 * 0)).take 64 = tz0B := by decide +kernel
theorem tz0_s0 : sched tz0B 0 = [] := rfl
theorem tz0_s1 : sched tz0B 1 = tz0W.take 1 := by rw [sched_wd tz0B (by decide), tz0_s0]; decide +kernel
theorem tz0_s2 : sched tz0B 2 = tz0W.take 2 := by rw [sched_wd tz0B (by decide), tz0_s1]; decide +kernel
theorem tz0_s3 : sched tz0B 3 = tz0W.take 3 := by rw [sched_wd tz0B (by decide), tz0_s2]; decide +kernel
theorem tz0_s4 : sched tz0B 4 = tz0W.take 4 := by rw [sched_wd tz0B (by decide), tz0_s3]; decide +kernel
theorem tz0_s5 : sched tz0B 5 = tz0W.take 5 := by rw [sched_wd tz0B (by decide), tz0_s4]; decide +kernel
theorem tz0_s6 : sched tz0B 6 = tz0W.take 6 := by rw [sched_wd tz0B (by decide), tz0_s5]; decide +kernel
theorem tz0_s7 : sched tz0B 7 = tz0W.take 7 := by rw [sched_wd tz0B (by decide), tz0_s6]; decide +kernel
theorem tz0_s8 : sched tz0B 8 = tz0W.take 8 := by rw [sched_wd tz0B (by decide), tz0_s7]; decide +kernel
theorem tz0_s9 : sched tz0B 9 = tz0W.take 9 := by rw [sched_wd tz0B (by decide), tz0_s8]; decide +kernel
theorem tz0_s10 : sched tz0B 10 = tz0W.take 10 := by rw [sched_wd tz0B (by decide), tz0_s9]; decide +kernel
theorem tz0_s11 : sched tz0B 11 = tz0W.take 11 := by rw [sched_wd tz0B (by decide), tz0_s10]; decide +kernel
theorem tz0_s12 : sched tz0B 12 = tz0W.take 12 := by rw [sched_wd tz0B (by decide), tz0_s11]; decide +kernel
theorem tz0_s13 : sched tz0B 13 = tz0W.take 13 := by rw [sched_wd tz0B (by decide), tz0_s12]; decide +kernel
theorem tz0_s14 : sched tz0B 14 = tz0W.take 14 := by rw [sched_wd tz0B (by decide), tz0_s13]; decide +kernel
theorem tz0_s15 : sched tz0B 15 = tz0W.take 15 := by rw [sched_wd tz0B (by decide), tz0_s14]; decide +kernel
theorem tz0_s16 : sched tz0B 16 = tz0W.take 16 := by rw [sched_wd tz0B (by decide), tz0_s15]; decide +kernel
theorem tz0_s17 : sched tz0B 17 = tz0W.take 17 := by rw [sched_next tz0B (by decide), tz0_s16]; decide +kernel
theorem tz0_s18 : sched tz0B 18 = tz0W.take 18 := by rw [sched_next tz0B (by decide), tz0_s17]; decide +kernel
theorem tz0_s19 : sched tz0B 19 = tz0W.take 19 := by rw [sched_next tz0B (by decide), tz0_s18]; decide +kernel
theorem tz0_s20 : sched tz0B 20 = tz0W.take 20 := by rw [sched_next tz0B (by decide), tz0_s19]; decide +kernel
theorem tz0_s21 : sched tz0B 21 = tz0W.take 21 := by rw [sched_next tz0B (by decide), tz0_s20]; decide +kernel
theorem tz0_s22 : sched tz0B 22 = tz0W.take 22 := by rw [sched_next tz0B (by decide), tz0_s21]; decide +kernel
theorem tz0_s23 : sched tz0B 23 = tz0W.take 23 := by rw [sched_next tz0B (by decide), tz0_s22]; decide +kernel
theorem tz0_s24 : sched tz0B 24 = tz0W.take 24 := by rw [sched_next tz0B (by decide), tz0_s23]; decide +kernel
theorem tz0_s25 : sched tz0B 25 = tz0W.take 25 := by rw [sched_next tz0B (by decide), tz0_s24]; decide +kernel
theorem tz0_s26 : sched tz0B 26 = tz0W.take 26 := by rw [sched_next tz0B (by decide), tz0_s25]; decide +kernel
theorem tz0_s27 : sched tz0B 27 = tz0W.take 27 := by rw [sched_next tz0B (by decide), tz0_s26]; decide +kernel
theorem tz0_s28 : sched tz0B 28 = tz0W.take 28 := by rw [sched_next tz0B (by decide), tz0_s27]; decide +kernel
theorem tz0_s29 : sched tz0B 29 = tz0W.take 29 := by rw [sched_next tz0B (by decide), tz0_s28]; decide +kernel
theorem tz0_s30 : sched tz0B 30 = tz0W.take 30 := by rw [sched_next tz0B (by decide), tz0_s29]; decide +kernel
theorem tz0_s31 : sched tz0B 31 = tz0W.take 31 := by rw [sched_next tz0B (by decide), tz0_s30]; decide +kernel
theorem tz0_s32 : sched tz0B 32 = tz0W.take 32 := by rw [sched_next tz0B (by decide), tz0_s31]; decide +kernel
theorem tz0_s33 : sched tz0B 33 = tz0W.take 33 := by rw [sched_next tz0B (by decide), tz0_s32]; decide +kernel
theorem tz0_s34 : sched tz0B 34 = tz0W.take 34 := by rw [sched_next tz0B (by decide), tz0_s33]; decide +kernel
theorem tz0_s35 : sched tz0B 35 = tz0W.take 35 := by rw [sched_next tz0B (by decide), tz0_s34]; decide +kernel
theorem tz0_s36 : sched tz0B 36 = tz0W.take 36 := by rw [sched_next tz0B (by decide), tz0_s35]; decide +kernel
theorem tz0_s37 : sched tz0B 37 = tz0W.take 37 := by rw [sched_next tz0B (by decide), tz0_s36]; decide +kernel
theorem tz0_s38 : sched tz0B 38 = tz0W.take 38 := by rw [sched_next tz0B (by decide), tz0_s37]; decide +kernel
theorem tz0_s39 : sched tz0B 39 = tz0W.take 39 := by rw [sched_next tz0B (by decide), tz0_s38]; decide +kernel
theorem tz0_s40 : sched tz0B 40 = tz0W.take 40 := by rw [sched_next tz0B (by decide), tz0_s39]; decide +kernel
theorem tz0_s41 : sched tz0B 41 = tz0W.take 41 := by rw [sched_next tz0B (by decide), tz0_s40]; decide +kernel
theorem tz0_s42 : sched tz0B 42 = tz0W.take 42 := by rw [sched_next tz0B (by decide), tz0_s41]; decide +kernel
theorem tz0_s43 : sched tz0B 43 = tz0W.take 43 := by rw [sched_next tz0B (by decide), tz0_s42]; decide +kernel
theorem tz0_s44 : sched tz0B 44 = tz0W.take 44 := by rw [sched_next tz0B (by decide), tz0_s43]; decide +kernel
theorem tz0_s45 : sched tz0B 45 = tz0W.take 45 := by rw [sched_next tz0B (by decide), tz0_s44]; decide +kernel
theorem tz0_s46 : sched tz0B 46 = tz0W.take 46 := by rw [sched_next tz0B (by decide), tz0_s45]; decide +kernel
theorem tz0_s47 : sched tz0B 47 = tz0W.take 47 := by rw [sched_next tz0B (by decide), tz0_s46]; decide +kernel
theorem tz0_s48 : sched tz0B 48 = tz0W.take 48 := by rw [sched_next tz0B (by decide), tz0_s47]; decide +kernel
theorem tz0_s49 : sched tz0B 49 = tz0W.take 49 := by rw [sched_next tz0B (by decide), tz0_s48]; decide +kernel
theorem tz0_s50 : sched tz0B 50 = tz0W.take 50 := by rw [sched_next tz0B (by decide), tz0_s49]; decide +kernel
theorem tz0_s51 : sched tz0B 51 = tz0W.take 51 := by rw [sched_next tz0B (by decide), tz0_s50]; decide +kernel
theorem tz0_s52 : sched tz0B 52 = tz0W.take 52 := by rw [sched_next tz0B (by decide), tz0_s51]; decide +kernel
theorem tz0_s53 : sched tz0B 53 = tz0W.take 53 := by rw [sched_next tz0B (by decide), tz0_s52]; decide +kernel
theorem tz0_s54 : sched tz0B 54 = tz0W.take 54 := by rw [sched_next tz0B (by decide), tz0_s53]; decide +kernel
theorem tz0_s55 : sched tz0B 55 = tz0W.take 55 := by rw [sched_next tz0B (by decide), tz0_s54]; decide +kernel
theorem tz0_s56 : sched tz0B 56 = tz0W.take 56 := by rw [sched_next tz0B (by decide), tz0_s55]; decide +kernel
theorem tz0_s57 : sched tz0B 57 = tz0W.take 57 := by rw [sched_next tz0B (by decide), tz0_s56]; decide +kernel
theorem tz0_s58 : sched tz0B 58 = tz0W.take 58 := by rw [sched_next tz0B (by decide), tz0_s57]; decide +kernel
theorem tz0_s59 : sched tz0B 59 = tz0W.take 59 := by rw [sched_next tz0B (by decide), tz0_s58]; decide +kernel
theorem tz0_s60 : sched tz0B 60 = tz0W.take 60 := by rw [sched_next tz0B (by decide), tz0_s59]; decide +kernel
theorem tz0_s61 : sched tz0B 61 = tz0W.take 61 := by rw [sched_next tz0B (by decide), tz0_s60]; decide +kernel
theorem tz0_s62 : sched tz0B 62 = tz0W.take 62 := by rw [sched_next tz0B (by decide), tz0_s61]; decide +kernel
theorem tz0_s63 : sched tz0B 63 = tz0W.take 63 := by rw [sched_next tz0B (by decide), tz0_s62]; decide +kernel
theorem tz0_s64 : sched tz0B 64 = tz0W.take 64 := by rw [sched_next tz0B (by decide), tz0_s63]; decide +kernel
theorem tz0_s : sched tz0B 64 = tz0W := by rw [tz0_s64]; rfl
theorem tz0_r0 : rounds H0 tz0W 0 = [bv 1779033703, bv 3144134277, bv 1013904242, bv 2773480762, bv 1359893119, bv 2600822924, bv 528734635, bv 1541459225] := rfl
theorem tz0_r1 : rounds H0 tz0W 1 = [bv 4245391694, bv 1779033703, bv 3144134277, bv 1013904242, bv 2580210595, bv 1359893119, bv 2600822924, bv 528734635] := by rw [rounds, tz0_r0]; decide +kernel
theorem tz0_r2 : rounds H0 tz0W 2 = [bv 2571963595, bv 4245391694, bv 1779033703, bv 3144134277, bv 4288684027, bv 2580210595, bv 1359893119, bv 2600822924] := by rw [rounds, tz0_r1]; decide +kernel
theorem tz0_r3 : rounds H0 tz0W 3 = [bv 1497982227, bv 2571963595, bv 4245391694, bv 1779033703, bv 1735057418, bv 4288684027, bv 2580210595, bv 1359893119] := by rw [rounds, tz0_r2]; decide +kernel
theorem tz0_r4 : rounds H0 tz0W 4 = [bv 2360041843, bv 1497982227, bv 2571963595, bv 4245391694, bv 1108302885, bv 1735057418, bv 4288684027, bv 2580210595] := by rw [rounds, tz0_r3]; decide +kernel
theorem tz0_r5 : rounds H0 tz0W 5 = [bv 3344380058, bv 2360041843, bv 1497982227, bv 2571963595, bv 3857047904, bv 1108302885, bv 1735057418, bv 4288684027] := by rw [rounds, tz0_r4]; decide +kernel
theorem tz0_r6 : rounds H0 tz0W 6 = [bv 807996406, bv 3344380058, bv 2360041843, bv 1497982227, bv 2456361516, bv 3857047904, bv 1108302885, bv 1735057418] := by rw [rounds, tz0_r5]; decide +kernel
theorem tz0_r7 : rounds H0 tz0W 7 = [bv 2032657208, bv 807996406, bv 3344380058, bv 2360041843, bv 3601992420, bv 2456361516, bv 3857047904, bv 1108302885] := by rw [rounds, tz0_r6]; decide +kernel
theorem tz0_r8 : rounds H0 tz0W 8 = [bv 1082459630, bv 2032657208, bv 807996406, bv 3344380058, bv 3288494994, bv 3601992420, bv 2456361516, bv 3857047904] := by rw [rounds, tz0_r7]; decide +kernel
theorem tz0_r9 : rounds H0 tz0W 9 = [bv 3895711701, bv 1082459630, bv 2032657208, bv 807996406, bv 2485192736, bv 3288494994, bv 3601992420, bv 2456361516] := by rw [rounds, tz0_r8]; decide +kernel
theorem tz0_r10 : rounds H0 tz0W 10 = [bv 1986606083, bv 3895711701, bv 1082459630, bv 2032657208, bv 846042162, bv 2485192736, bv 3288494994, bv 3601992420] := by rw [rounds, tz0_r9]; decide +kernel
theorem tz0_r11 : rounds H0 tz0W 11 = [bv 2160091284, bv 1986606083, bv 3895711701, bv 1082459630, bv 3228908149, bv 846042162, bv 2485192736, bv 3288494994] := by rw [rounds, tz0_r10]; decide +kernel
theorem tz0_r12 : rounds H0 tz0W 12 = [bv 3591414509, bv 2160091284, bv 1986606083, bv 3895711701, bv 287172641, bv 3228908149, bv 846042162, bv 2485192736] := by rw [rounds, tz0_r11]; decide +kernel
theorem tz0_r13 : rounds H0 tz0W 13 = [bv 780678727, bv 3591414509, bv 2160091284, bv 1986606083, bv 538623537, bv 287172641, bv 3228908149, bv 846042162] := by rw [rounds, tz0_r12]; decide +kernel
theorem tz0_r14 : rounds H0 tz0W 14 = [bv 1669851139, bv 780678727, bv 3591414509, bv 2160091284, bv 4197356503, bv 538623537, bv 287172641, bv 3228908149] := by rw [rounds, tz0_r13]; decide +kernel
theorem tz0_r15 : rounds H0 tz0W 15 = [bv 2644958629, bv 1669851139, bv 780678727, bv 3591414509, bv 814460993, bv 4197356503, bv 538623537, bv 287172641] := by rw [rounds, tz0_r14]; decide +kernel
theorem tz0_r16 : rounds H0 tz0W 16 = [bv 2362138805, bv 2644958629, bv 1669851139, bv 780678727, bv 572603250, bv 814460993, bv 4197356503, bv 538623537] := by rw [rounds, tz0_r15]; decide +kernel
theorem tz0_r17 : rounds H0 tz0W 17 = [bv 3439249055, bv 2362138805, bv 2644958629, bv 1669851139, bv 585280508, bv 572603250, bv 814460993, bv 4197356503] := by rw [rounds, tz0_r16]; decide +kernel
theorem tz0_r18 : rounds H0 tz0W 18 = [bv 3840175896, bv 3439249055, bv 2362138805, bv 2644958629, bv 2124540164, bv 585280508, bv 572603250, bv 814460993] := by rw [rounds, tz0_r17]; decide +kernel
theorem tz0_r19 : rounds H0 tz0W 19 = [bv 1487288695, bv 3840175896, bv 3439249055, bv 2362138805, bv 1495027977, bv 2124540164, bv 585280508, bv 572603250] := by rw [rounds, tz0_r18]; decide +kernel
theorem tz0_r20 : rounds H0 tz0W 20 = [bv 1986186994, bv 1487288695, bv 3840175896, bv 3439249055, bv 2966497914, bv 1495027977, bv 2124540164, bv 585280508] := by rw [rounds, tz0_r19]; decide +kernel
theorem tz0_r21 : rounds H0 tz0W 21 = [bv 3509140020, bv 1986186994, bv 1487288695, bv 3840175896, bv 3356542958, bv 2966497914, bv 1495027977, bv 2124540164] := by rw [rounds, tz0_r20]; decide +kernel
theorem tz0_r22 : rounds H0 tz0W 22 = [bv 1784445327, bv 3509140020, bv 1986186994, bv 1487288695, bv 3189414321, bv 3356542958, bv 2966497914, bv 1495027977] := by rw [rounds, tz0_r21]; decide +kernel
theorem tz0_r23 : rounds H0 tz0W 23 = [bv 942830353, bv 1784445327, bv 3509140020, bv 1986186994, bv 3076898985, bv 3189414321, bv 3356542958, bv 2966497914] := by rw [rounds, tz0_r22]; decide +kernel
theorem tz0_r24 : rounds H0 tz0W 24 = [bv 1680623247, bv 942830353, bv 1784445327, bv 3509140020, bv 1124958389, bv 3076898985, bv 3189414321, bv 3356542958] := by rw [rounds, tz0_r23]; decide +kernel
theorem tz0_r25 : rounds H0 tz0W 25 = [bv 1075188828, bv 1680623247, bv 942830353, bv 1784445327, bv 1285082544, bv 1124958389, bv 3076898985, bv 3189414321] := by rw [rounds, tz0_r24]; decide +kernel
theorem tz0_r26 : rounds H0 tz0W 26 = [bv 2724746288, bv 1075188828, bv 1680623247, bv 942830353, bv 3252126459, bv 1285082544, bv 1124958389, bv 3076898985] := by rw [rounds, tz0_r25]; decide +kernel
theorem tz0_r27 : rounds H0 tz0W 27 = [bv 1517938182, bv 2724746288, bv 1075188828, bv 1680623247, bv 170934324, bv 3252126459, bv 1285082544, bv 1124958389] := by rw [rounds, tz0_r26]; decide +kernel
theorem tz0_r28 : rounds H0 tz0W 28 = [bv 2561840886, bv 1517938182, bv 2724746288, bv 1075188828, bv 2033309258, bv 170934324, bv 3252126459, bv 1285082544] := by rw [rounds, tz0_r27]; decide +kernel
theorem tz0_r29 : rounds H0 tz0W 29 = [bv 2809394011, bv 2561840886, bv 1517938182, bv 2724746288, bv 1900902198, bv 2033309258, bv 170934324, bv 3252126459] := by rw [rounds, tz0_r28]; decide +kernel
theorem tz0_r30 : rounds H0 tz0W 30 = [bv 3844999033, bv 2809394011, bv 2561840886, bv 1517938182, bv 810924927, bv 1900902198, bv 2033309258, bv 170934324] := by rw [rounds, tz0_r29]; decide +kernel
theorem tz0_r31 : rounds H0 tz0W 31 = [bv 1557100723, bv 3844999033, bv 2809394011, bv 2561840886, bv 394098692, bv 810924927, bv 1900902198, bv 2033309258] := by rw [rounds, tz0_r30]; decide +kernel
theorem tz0_r32 : rounds H0 tz0W 32 = [bv 305559294, bv 1557100723, bv 3844999033, bv 2809394011, bv 2519573845, bv 394098692, bv 810924927, bv 1900902198] := by rw [rounds, tz0_r31]; decide +kernel
theorem tz0_r33 : rounds H0 tz0W 33 = [bv 942426535, bv 305559294, bv 1557100723, bv 3844999033, bv 2697646531, bv 2519573845, bv 394098692, bv 810924927] := by rw [rounds, tz0_r32]; decide +kernel
theorem tz0_r34 : rounds H0 tz0W 34 = [bv 2298540033, bv 942426535, bv 305559294, bv 1557100723, bv 602681048, bv 2697646531, bv 2519573845, bv 394098692] := by rw [rounds, tz0_r33]; decide +kernel
theorem tz0_r35 : rounds H0 tz0W 35 = [bv 919048417, bv 2298540033, bv 942426535, bv 305559294, bv 2581997258, bv 602681048, bv 2697646531, bv 2519573845] := by rw [rounds, tz0_r34]; decide +kernel
theorem tz0_r36 : rounds H0 tz0W 36 = [bv 1928484434, bv 919048417, bv 2298540033, bv 942426535, bv 2015897040, bv 2581997258, bv 602681048, bv 2697646531] := by rw [rounds, tz0_r35]; decide +kernel
theorem tz0_r37 : rounds H0 tz0W 37 = [bv 335276860, bv 1928484434, bv 919048417, bv 2298540033, bv 837753045, bv 2015897040, bv 2581997258, bv 602681048] := by rw [rounds, tz0_r36]; decide +kernel
theorem tz0_r38 : rounds H0 tz0W 38 = [bv 2421003035, bv 335276860, bv 1928484434, bv 919048417, bv 866655053, bv 837753045, bv 2015897040, bv 2581997258] := by rw [rounds, tz0_r37]; decide +kernel
theorem tz0_r39 : rounds H0 tz0W 39 = [bv 3251928469, bv 2421003035, bv 335276860, bv 1928484434, bv 2602349169, bv 866655053, bv 837753045, bv 2015897040] := by rw [rounds, tz0_r38]; decide +kernel
theorem tz0_r40 : rounds H0 tz0W 40 = [bv 3813667122, bv 3251928469, bv 2421003035, bv 335276860, bv 4147578278, bv 2602349169, bv 866655053, bv 837753045] := by rw [rounds, tz0_r39]; decide +kernel
theorem tz0_r41 : rounds H0 tz0W 41 = [bv 2332625856, bv 3813667122, bv 3251928469, bv 2421003035, bv 3476477995, bv 4147578278, bv 2602349169, bv 866655053] := by rw [rounds, tz0_r40]; decide +kernel
theorem tz0_r42 : rounds H0 tz0W 42 = [bv 2495693164, bv 2332625856, bv 3813667122, bv 3251928469, bv 148390499, bv 3476477995, bv 4147578278, bv 2602349169] := by rw [rounds, tz0_r41]; decide +kernel
theorem tz0_r43 : rounds H0 tz0W 43 = [bv 2426066345, bv 2495693164, bv 2332625856, bv 3813667122, bv 2748632540, bv 148390499, bv 3476477995, bv 4147578278] := by rw [rounds, tz0_r42]; decide +kernel
theorem tz0_r44 : rounds H0 tz0W 44 = [bv 1661596900, bv 2426066345, bv 2495693164, bv 2332625856, bv 328469552, bv 2748632540, bv 148390499, bv 3476477995] := by rw [rounds, tz0_r43]; decide +kernel
theorem tz0_r45 : rounds H0 tz0W 45 = [bv 259944020, bv 1661596900, bv 2426066345, bv 2495693164, bv 1909108526, bv 328469552, bv 2748632540, bv 148390499] := by rw [rounds, tz0_r44]; decide +kernel
theorem tz0_r46 : rounds H0 tz0W 46 = [bv 1228439589, bv 259944020, bv 1661596900, bv 2426066345, bv 1377311826, bv 1909108526, bv 328469552, bv 2748632540] := by rw [rounds, tz0_r45]; decide +kernel
theorem tz0_r47 : rounds H0 tz0W 47 = [bv 2200251433, bv 1228439589, bv 259944020, bv 1661596900, bv 388112517, bv 1377311826, bv 1909108526, bv 328469552] := by rw [rounds, tz0_r46]; decide +kernel
theorem tz0_r48 : rounds H0 tz0W 48 = [bv 891342429, bv 2200251433, bv 1228439589, bv 259944020, bv 4156072685, bv 388112517, bv 1377311826, bv 1909108526] := by rw [rounds, tz0_r47]; decide +kernel
theorem tz0_r49 : rounds H0 tz0W 49 = [bv 3371011941, bv 891342429, bv 2200251433, bv 1228439589, bv 447906631, bv 4156072685, bv 388112517, bv 1377311826] := by rw [rounds, tz0_r48]; decide +kernel
theorem tz0_r50 : rounds H0 tz0W 50 = [bv 1111927172, bv 3371011941, bv 891342429, bv 2200251433, bv 1261496230, bv 447906631, bv 4156072685, bv 388112517] := by rw [rounds, tz0_r49]; decide +kernel
theorem tz0_r51 : rounds H0 tz0W 51 = [bv 4198805248, bv 1111927172, bv 3371011941, bv 891342429, bv 4142899847, bv 1261496230, bv 447906631, bv 4156072685] := by rw [rounds, tz0_r50]; decide +kernel
theorem tz0_r52 : rounds H0 tz0W 52 = [bv 935883459, bv 4198805248, bv 1111927172, bv 3371011941, bv 1316591632, bv 4142899847, bv 1261496230, bv 447906631] := by rw [rounds, tz0_r51]; decide +kernel
theorem tz0_r53 : rounds H0 tz0W 53 = [bv 446496602, bv 935883459, bv 4198805248, bv 1111927172, bv 4146410771, bv 1316591632, bv 4142899847, bv 1261496230] := by rw [rounds, tz0_r52]; decide +kernel
theorem tz0_r54 : rounds H0 tz0W 54 = [bv 1293564259, bv 446496602, bv 935883459, bv 4198805248, bv 1158242378, bv 4146410771, bv 1316591632, bv 4142899847] := by rw [rounds, tz0_r53]; decide +kernel
theorem tz0_r55 : rounds H0 tz0W 55 = [bv 2119261217, bv 1293564259, bv 446496602, bv 935883459, bv 3896779809, bv 1158242378, bv 4146410771, bv 1316591632] := by rw [rounds, tz0_r54]; decide +kernel
theorem tz0_r56 : rounds H0 tz0W 56 = [bv 2281710609, bv 2119261217, bv 1293564259, bv 446496602, bv 1707145462, bv 3896779809, bv 1158242378, bv 4146410771] := by rw [rounds, tz0_r55]; decide +kernel
theorem tz0_r57 : rounds H0 tz0W 57 = [bv 498533142, bv 2281710609, bv 2119261217, bv 1293564259, bv 2854729514, bv 1707145462, bv 3896779809, bv 1158242378] := by rw [rounds, tz0_r56]; decide +kernel
theorem tz0_r58 : rounds H0 tz0W 58 = [bv 2297563615, bv 498533142, bv 2281710609, bv 2119261217, bv 1982450214, bv 2854729514, bv 1707145462, bv 3896779809] := by rw [rounds, tz0_r57]; decide +kernel
theorem tz0_r59 : rounds H0 tz0W 59 = [bv 1153777045, bv 2297563615, bv 498533142, bv 2281710609, bv 3581730011, bv 1982450214, bv 2854729514, bv 1707145462] := by rw [rounds, tz0_r58]; decide +kernel
theorem tz0_r60 : rounds H0 tz0W 60 = [bv 3777393752, bv 1153777045, bv 2297563615, bv 498533142, bv 2999079539, bv 3581730011, bv 1982450214, bv 2854729514] := by rw [rounds, tz0_r59]; decide +kernel
theorem tz0_r61 : rounds H0 tz0W 61 = [bv 2091912758, bv 3777393752, bv 1153777045, bv 2297563615, bv 3592477646, bv 2999079539, bv 3581730011, bv 1982450214] := by rw [rounds, tz0_r60]; decide +kernel
theorem tz0_r62 : rounds H0 tz0W 62 = [bv 3721334837, bv 2091912758, bv 3777393752, bv 1153777045, bv 3547700737, bv 3592477646, bv 2999079539, bv 3581730011] := by rw [rounds, tz0_r61]; decide +kernel
theorem tz0_r63 : rounds H0 tz0W 63 = [bv 1050433257, bv 3721334837, bv 2091912758, bv 3777393752, bv 3139273544, bv 3547700737, bv 3592477646, bv 2999079539] := by rw [rounds, tz0_r62]; decide +kernel
theorem tz0_r64 : rounds H0 tz0W 64 = [bv 4008297248, bv 1050433257, bv 3721334837, bv 2091912758, bv 3384728481, bv 3139273544, bv 3547700737, bv 3592477646] := by rw [rounds, tz0_r63]; decide +kernel
theorem tz0_k : block H0 tz0B = [bv 1492363655, bv 4194567534, bv 440271783, bv 570426224, bv 449654304, bv 1445129172, bv 4076435372, bv 838969575] := by rw [block, tz0_s, tz0_r64]; decide +kernel
theorem sum_tz0 : sum tz0T = [88, 243, 169, 135, 250, 4, 5, 110, 26, 62, 3, 167, 34, 0, 3, 112, 26, 205, 46, 32, 86, 34, 235, 212, 242, 249, 119, 172, 50, 1, 168, 231] := by
  have e : (pad tz0T).length / 64 = 0 + 1 := by decide +kernel
  rw [sum, e, blocks, tz0_b]
  show out (block H0 tz0B) = _
  rw [tz0_k]
  decide +kernel
def tz1T : List UInt8 := [1, 3, 1, 2, 1, 1, 1, 1, 0, 1, 32, 88, 243, 169, 135, 250, 4, 5, 110, 26, 62, 3, 167, 34, 0, 3, 112, 26, 205, 46, 32, 86, 34, 235, 212, 242, 249, 119, 172, 50, 1, 168, 231]
def tz1W : List W := [bv 16974082, bv 16843009, bv 73816, bv 4087973882, bv 67464730, bv 1040426786, bv 225306, bv 3442352214, bv 585880818, bv 4185369650, bv 27846528, bv 0, bv 0, bv 0, bv 0, bv 344, bv 1021120406, bv 4215738060, bv 2963598888, bv 3375948064, bv 2574766529, bv 2458960776, bv 1328299732, bv 2562806947, bv 1218899389, bv 1691776732, bv 1985801628, bv 2401525037, bv 2112939622, bv 4097637941, bv 3103253067, bv 2442121109, bv 4095962660, bv 213912989, bv 2075301707, bv 3004453703, bv 3667667794, bv 2654952763, bv 1924328845, bv 2599204891, bv 2864132625, bv 3102821675, bv 109260666, bv 4089152048, bv 1499906608, bv 2437968572, bv 3626277539, bv 5875284, bv 3291421719, bv 930593936, bv 1794865371, bv 3934577100, bv 4077811612, bv 320447950, bv 1920753956, bv 1073595459, bv 2986228749, bv 3180769159, bv 1775197761, bv 1140345401, bv 689626349, bv 2855565273, bv 262299023, bv 1469946963]
def tz1B : List UInt8 := [1, 3, 1, 2, 1, 1, 1, 1, 0, 1, 32, 88, 243, 169, 135, 250, 4, 5, 110, 26, 62, 3, 167, 34, 0, 3, 112, 26, 205, 46, 32, 86, 34, 235, 212, 242, 249, 119, 172, 50, 1, 168, 231, 128, 0, 0, 0, 0, 0, 0, 0, 0, 0, 0, 0, 0, 0, 0, 0, 0, 0, 0, 1, 88]
theorem tz1_b : ((pad tz1T).drop (64 * 0)).take 64 = tz1B := by decide +kernel
theorem tz1_s0 : sched tz1B 0 = [] := rfl
theorem tz1_s1 : sched tz1B 1 = tz1W.take 1 := by rw [sched_wd tz1B (by decide), tz1_s0]; decide +kernel
theorem tz1_s2 : sched tz1B 2 = tz1W.take 2 := by rw [sched_wd tz1B (by decide), tz1_s1]; decide +kernel
theorem tz1_s3 : sched tz1B 3 = tz1W.take 3 := by rw [sched_wd tz1B (by decide), tz1_s2]; decide +kernel
theorem tz1_s4 : sched tz1B 4 = tz1W.take 4 := by rw [sched_wd tz1B (by decide), tz1_s3]; decide +kernel
theorem tz1_s5 : sched tz1B 5 = tz1W.take 5 := by rw [sched_wd tz1B (by decide), tz1_s4]; decide +kernel
theorem tz1_s6 : sched tz1B 6 = tz1W.take 6 := by rw [sched_wd tz1B (by decide), tz1_s5]; decide +kernel
theorem tz1_s7 : sched tz1B 7 = tz1W.take 7 := by rw [sched_wd tz1B (by decide), tz1_s6]; decide +kernel
theorem tz1_s8 : sched tz1B 8 = tz1W.take 8 := by rw [sched_wd tz1B (by decide), tz1_s7]; decide +kernel
theorem tz1_s9 : sched tz1B 9 = tz1W.take 9 := by rw [sched_wd tz1B (by decide), tz1_s8]; decide +kernel
theorem tz1_s10 : sched tz1B 10 = tz1W.take 10 := by rw [sched_wd tz1B (by decide), tz1_s9]; decide +kernel
theorem tz1_s11 : sched tz1B 11 = tz1W.take 11 := by rw [sched_wd tz1B (by decide), tz1_s10]; decide +kernel
theorem tz1_s12 : sched tz1B 12 = tz1W.take 12 := by rw [sched_wd tz1B (by decide), tz1_s11]; decide +kernel
theorem tz1_s13 : sched tz1B 13 = tz1W.take 13 := by rw [sched_wd tz1B (by decide), tz1_s12]; decide +kernel
theorem tz1_s14 : sched tz1B 14 = tz1W.take 14 := by rw [sched_wd tz1B (by decide), tz1_s13]; decide +kernel
theorem tz1_s15 : sched tz1B 15 = tz1W.take 15 := by rw [sched_wd tz1B (by decide), tz1_s14]; decide +kernel
theorem tz1_s16 : sched tz1B 16 = tz1W.take 16 := by rw [sched_wd tz1B (by decide), tz1_s15]; decide +kernel
theorem tz1_s17 : sched tz1B 17 = tz1W.take 17 := by rw [sched_next tz1B (by decide), tz1_s16]; decide +kernel
theorem tz1_s18 : sched tz1B 18 = tz1W.take 18 := by rw [sched_next tz1B (by decide), tz1_s17]; decide +kernel
theorem tz1_s19 : sched tz1B 19 = tz1W.take 19 := by rw [sched_next tz1B (by decide), tz1_s18]; decide +kernel
theorem tz1_s20 : sched tz1B 20 = tz1W.take 20 := by rw [sched_next tz1B (by decide), tz1_s19]; decide +kernel
theorem tz1_s21 : sched tz1B 21 = tz1W.take 21 := by rw [sched_next tz1B (by decide), tz1_s20]; decide +kernel
theorem tz1_s22 : sched tz1B 22 = tz1W.take 22 := by rw [sched_next tz1B (by decide), tz1_s21]; decide +kernel
theorem tz1_s23 : sched tz1B 23 = tz1W.take 23 := by rw [sched_next tz1B (by decide), tz1_s22]; decide +kernel
theorem tz1_s24 : sched tz1B 24 = tz1W.take 24 := by rw [sched_next tz1B (by decide), tz1_s23]; decide +kernel
theorem tz1_s25 : sched tz1B 25 = tz1W.take 25 := by rw [sched_next tz1B (by decide), tz1_s24]; decide +kernel
theorem tz1_s26 : sched tz1B 26 = tz1W.take 26 := by rw [sched_next tz1B (by decide), tz1_s25]; decide +kernel
theorem tz1_s27 : sched tz1B 27 = tz1W.take 27 := by rw [sched_next tz1B (by decide), tz1_s26]; decide +kernel
theorem tz1_s28 : sched tz1B 28 = tz1W.take 28 := by rw [sched_next tz1B (by decide), tz1_s27]; decide +kernel
theorem tz1_s29 : sched tz1B 29 = tz1W.take 29 := by rw [sched_next tz1B (by decide), tz1_s28]; decide +kernel
theorem tz1_s30 : sched tz1B 30 = tz1W.take 30 := by rw [sched_next tz1B (by decide), tz1_s29]; decide +kernel
theorem tz1_s31 : sched tz1B 31 = tz1W.take 31 := by rw [sched_next tz1B (by decide), tz1_s30]; decide +kernel
theorem tz1_s32 : sched tz1B 32 = tz1W.take 32 := by rw [sched_next tz1B (by decide), tz1_s31]; decide +kernel
theorem tz1_s33 : sched tz1B 33 = tz1W.take 33 := by rw [sched_next tz1B (by decide), tz1_s32]; decide +kernel
theorem tz1_s34 : sched tz1B 34 = tz1W.take 34 := by rw [sched_next tz1B (by decide), tz1_s33]; decide +kernel
theorem tz1_s35 : sched tz1B 35 = tz1W.take 35 := by rw [sched_next tz1B (by decide), tz1_s34]; decide +kernel
theorem tz1_s36 : sched tz1B 36 = tz1W.take 36 := by rw [sched_next tz1B (by decide), tz1_s35]; decide +kernel
theorem tz1_s37 : sched tz1B 37 = tz1W.take 37 := by rw [sched_next tz1B (by decide), tz1_s36]; decide +kernel
theorem tz1_s38 : sched tz1B 38 = tz1W.take 38 := by rw [sched_next tz1B (by decide), tz1_s37]; decide +kernel
theorem tz1_s39 : sched tz1B 39 = tz1W.take 39 := by rw [sched_next tz1B (by decide), tz1_s38]; decide +kernel
theorem tz1_s40 : sched tz1B 40 = tz1W.take 40 := by rw [sched_next tz1B (by decide), tz1_s39]; decide +kernel
theorem tz1_s41 : sched tz1B 41 = tz1W.take 41 := by rw [sched_next tz1B (by decide), tz1_s40]; decide +kernel
theorem tz1_s42 : sched tz1B 42 = tz1W.take 42 := by rw [sched_next tz1B (by decide), tz1_s41]; decide +kernel
theorem tz1_s43 : sched tz1B 43 = tz1W.take 43 := by rw [sched_next tz1B (by decide), tz1_s42]; decide +kernel
theorem tz1_s44 : sched tz1B 44 = tz1W.take 44 := by rw [sched_next tz1B (by decide), tz1_s43]; decide +kernel
theorem tz1_s45 : sched tz1B 45 = tz1W.take 45 := by rw [sched_next tz1B (by decide), tz1_s44]; decide +kernel
theorem tz1_s46 : sched tz1B 46 = tz1W.take 46 := by rw [sched_next tz1B (by decide), tz1_s45]; decide +kernel
theorem tz1_s47 : sched tz1B 47 = tz1W.take 47 := by rw [sched_next tz1B (by decide), tz1_s46]; decide +kernel
theorem tz1_s48 : sched tz1B 48 = tz1W.take 48 := by rw [sched_next tz1B (by decide), tz1_s47]; decide +kernel
theorem tz1_s49 : sched tz1B 49 = tz1W.take 49 := by rw [sched_next tz1B (by decide), tz1_s48]; decide +kernel
theorem tz1_s50 : sched tz1B 50 = tz1W.take 50 := by rw [sched_next tz1B (by decide), tz1_s49]; decide +kernel
theorem tz1_s51 : sched tz1B 51 = tz1W.take 51 := by rw [sched_next tz1B (by decide), tz1_s50]; decide +kernel
theorem tz1_s52 : sched tz1B 52 = tz1W.take 52 := by rw [sched_next tz1B (by decide), tz1_s51]; decide +kernel
theorem tz1_s53 : sched tz1B 53 = tz1W.take 53 := by rw [sched_next tz1B (by decide), tz1_s52]; decide +kernel
theorem tz1_s54 : sched tz1B 54 = tz1W.take 54 := by rw [sched_next tz1B (by decide), tz1_s53]; decide +kernel
theorem tz1_s55 : sched tz1B 55 = tz1W.take 55 := by rw [sched_next tz1B (by decide), tz1_s54]; decide +kernel
theorem tz1_s56 : sched tz1B 56 = tz1W.take 56 := by rw [sched_next tz1B (by decide), tz1_s55]; decide +kernel
theorem tz1_s57 : sched tz1B 57 = tz1W.take 57 := by rw [sched_next tz1B (by decide), tz1_s56]; decide +kernel
theorem tz1_s58 : sched tz1B 58 = tz1W.take 58 := by rw [sched_next tz1B (by decide), tz1_s57]; decide +kernel
theorem tz1_s59 : sched tz1B 59 = tz1W.take 59 := by rw [sched_next tz1B (by decide), tz1_s58]; decide +kernel
theorem tz1_s60 : sched tz1B 60 = tz1W.take 60 := by rw [sched_next tz1B (by decide), tz1_s59]; decide +kernel
theorem tz1_s61 : sched tz1B 61 = tz1W.take 61 := by rw [sched_next tz1B (by decide), tz1_s60]; decide +kernel
theorem tz1_s62 : sched tz1B 62 = tz1W.take 62 := by rw [sched_next tz1B (by decide), tz1_s61]; decide +kernel
theorem tz1_s63 : sched tz1B 63 = tz1W.take 63 := by rw [sched_next tz1B (by decide), tz1_s62]; decide +kernel
theorem tz1_s64 : sched tz1B 64 = tz1W.take 64 := by rw [sched_next tz1B (by decide), tz1_s63]; decide +kernel
theorem tz1_s : sched tz1B 64 = tz1W := by rw [tz1_s64]; rfl
theorem tz1_r0 : rounds H0 tz1W 0 = [bv 1779033703, bv 3144134277, bv 1013904242, bv 2773480762, bv 1359893119, bv 2600822924, bv 528734635, bv 1541459225] := rfl
theorem tz1_r1 : rounds H0 tz1W 1 = [bv 4245391695, bv 1779033703, bv 3144134277, bv 1013904242, bv 2580210596, bv 1359893119, bv 2600822924, bv 528734635] := by rw [rounds, tz1_r0]; decide +kernel
theorem tz1_r2 : rounds H0 tz1W 2 = [bv 1047858761, bv 4245391695, bv 1779033703, bv 3144134277, bv 3837795705, bv 2580210596, bv 1359893119, bv 2600822924] := by rw [rounds, tz1_r1]; decide +kernel
theorem tz1_r3 : rounds H0 tz1W 3 = [bv 1932398447, bv 1047858761, bv 4245391695, bv 1779033703, bv 3332283106, bv 3837795705, bv 2580210596, bv 1359893119] := by rw [rounds, tz1_r2]; decide +kernel
theorem tz1_r4 : rounds H0 tz1W 4 = [bv 1123729171, bv 1932398447, bv 1047858761, bv 4245391695, bv 239595204, bv 3332283106, bv 3837795705, bv 2580210596] := by rw [rounds, tz1_r3]; decide +kernel
theorem tz1_r5 : rounds H0 tz1W 5 = [bv 3730074040, bv 1123729171, bv 1932398447, bv 1047858761, bv 2785603234, bv 239595204, bv 3332283106, bv 3837795705] := by rw [rounds, tz1_r4]; decide +kernel
theorem tz1_r6 : rounds H0 tz1W 6 = [bv 2625291311, bv 3730074040, bv 1123729171, bv 1932398447, bv 1551669129, bv 2785603234, bv 239595204, bv 3332283106] := by rw [rounds, tz1_r5]; decide +kernel
theorem tz1_r7 : rounds H0 tz1W 7 = [bv 1424822189, bv 2625291311, bv 3730074040, bv 1123729171, bv 3157083445, bv 1551669129, bv 2785603234, bv 239595204] := by rw [rounds, tz1_r6]; decide +kernel
theorem tz1_r8 : rounds H0 tz1W 8 = [bv 2224056145, bv 1424822189, bv 2625291311, bv 3730074040, bv 1319077607, bv 3157083445, bv 1551669129, bv 2785603234] := by rw [rounds, tz1_r7]; decide +kernel
theorem tz1_r9 : rounds H0 tz1W 9 = [bv 2057839639, bv 2224056145, bv 1424822189, bv 2625291311, bv 2848901981, bv 1319077607, bv 3157083445, bv 1551669129] := by rw [rounds, tz1_r8]; decide +kernel
theorem tz1_r10 : rounds H0 tz1W 10 = [bv 851999236, bv 2057839639, bv 2224056145, bv 1424822189, bv 471438704, bv 2848901981, bv 1319077607, bv 3157083445] := by rw [rounds, tz1_r9]; decide +kernel
theorem tz1_r11 : rounds H0 tz1W 11 = [bv 3209925073, bv 851999236, bv 2057839639, bv 2224056145, bv 3829179232, bv 471438704, bv 2848901981, bv 1319077607] := by rw [rounds, tz1_r10]; decide +kernel
theorem tz1_r12 : rounds H0 tz1W 12 = [bv 2370509756, bv 3209925073, bv 851999236, bv 2057839639, bv 670366435, bv 3829179232, bv 471438704, bv 2848901981] := by rw [rounds, tz1_r11]; decide +kernel
theorem tz1_r13 : rounds H0 tz1W 13 = [bv 359966526, bv 2370509756, bv 3209925073, bv 851999236, bv 4260974911, bv 670366435, bv 3829179232, bv 471438704] := by rw [rounds, tz1_r12]; decide +kernel
theorem tz1_r14 : rounds H0 tz1W 14 = [bv 4078112092, bv 359966526, bv 2370509756, bv 3209925073, bv 441874789, bv 4260974911, bv 670366435, bv 3829179232] := by rw [rounds, tz1_r13]; decide +kernel
theorem tz1_r15 : rounds H0 tz1W 15 = [bv 23680660, bv 4078112092, bv 359966526, bv 2370509756, bv 290697510, bv 441874789, bv 4260974911, bv 670366435] := by rw [rounds, tz1_r14]; decide +kernel
theorem tz1_r16 : rounds H0 tz1W 16 = [bv 519859372, bv 23680660, bv 4078112092, bv 359966526, bv 2302046818, bv 290697510, bv 441874789, bv 4260974911] := by rw [rounds, tz1_r15]; decide +kernel
theorem tz1_r17 : rounds H0 tz1W 17 = [bv 922188623, bv 519859372, bv 23680660, bv 4078112092, bv 2776987966, bv 2302046818, bv 290697510, bv 441874789] := by rw [rounds, tz1_r16]; decide +kernel
theorem tz1_r18 : rounds H0 tz1W 18 = [bv 2547502641, bv 922188623, bv 519859372, bv 23680660, bv 2848196430, bv 2776987966, bv 2302046818, bv 290697510] := by rw [rounds, tz1_r17]; decide +kernel
theorem tz1_r19 : rounds H0 tz1W 19 = [bv 119224229, bv 2547502641, bv 922188623, bv 519859372, bv 2789971103, bv 2848196430, bv 2776987966, bv 2302046818] := by rw [rounds, tz1_r18]; decide +kernel
theorem tz1_r20 : rounds H0 tz1W 20 = [bv 2297424832, bv 119224229, bv 2547502641, bv 922188623, bv 4293163035, bv 2789971103, bv 2848196430, bv 2776987966] := by rw [rounds, tz1_r19]; decide +kernel
theorem tz1_r21 : rounds H0 tz1W 21 = [bv 4250115754, bv 2297424832, bv 119224229, bv 2547502641, bv 3906628268, bv 4293163035, bv 2789971103, bv 2848196430] := by rw [rounds, tz1_r20]; decide +kernel
theorem tz1_r22 : rounds H0 tz1W 22 = [bv 2456540817, bv 4250115754, bv 2297424832, bv 119224229, bv 2557361759, bv 3906628268, bv 4293163035, bv 2789971103] := by rw [rounds, tz1_r21]; decide +kernel
theorem tz1_r23 : rounds H0 tz1W 23 = [bv 3694690688, bv 2456540817, bv 4250115754, bv 2297424832, bv 3415980530, bv 2557361759, bv 3906628268, bv 4293163035] := by rw [rounds, tz1_r22]; decide +kernel
theorem tz1_r24 : rounds H0 tz1W 24 = [bv 2787118655, bv 3694690688, bv 2456540817, bv 4250115754, bv 2038800555, bv 3415980530, bv 2557361759, bv 3906628268] := by rw [rounds, tz1_r23]; decide +kernel
theorem tz1_r25 : rounds H0 tz1W 25 = [bv 3162189539, bv 2787118655, bv 3694690688, bv 2456540817, bv 190348005, bv 2038800555, bv 3415980530, bv 2557361759] := by rw [rounds, tz1_r24]; decide +kernel
theorem tz1_r26 : rounds H0 tz1W 26 = [bv 77351663, bv 3162189539, bv 2787118655, bv 3694690688, bv 1712811085, bv 190348005, bv 2038800555, bv 3415980530] := by rw [rounds, tz1_r25]; decide +kernel
theorem tz1_r27 : rounds H0 tz1W 27 = [bv 1354500966, bv 77351663, bv 3162189539, bv 2787118655, bv 2705847212, bv 1712811085, bv 190348005, bv 2038800555] := by rw [rounds, tz1_r26]; decide +kernel
theorem tz1_r28 : rounds H0 tz1W 28 = [bv 2868375726, bv 1354500966, bv 77351663, bv 3162189539, bv 4247508363, bv 2705847212, bv 1712811085, bv 190348005] := by rw [rounds, tz1_r27]; decide +kernel
theorem tz1_r29 : rounds H0 tz1W 29 = [bv 4016673545, bv 2868375726, bv 1354500966, bv 77351663, bv 3139331519, bv 4247508363, bv 2705847212, bv 1712811085] := by rw [rounds, tz1_r28]; decide +kernel
theorem tz1_r30 : rounds H0 tz1W 30 = [bv 3762840636, bv 4016673545, bv 2868375726, bv 1354500966, bv 3020809162, bv 3139331519, bv 4247508363, bv 2705847212] := by rw [rounds, tz1_r29]; decide +kernel
theorem tz1_r31 : rounds H0 tz1W 31 = [bv 3531594549, bv 3762840636, bv 4016673545, bv 2868375726, bv 7081378, bv 3020809162, bv 3139331519, bv 4247508363] := by rw [rounds, tz1_r30]; decide +kernel
theorem tz1_r32 : rounds H0 tz1W 32 = [bv 2635211412, bv 3531594549, bv 3762840636, bv 4016673545, bv 323128715, bv 7081378, bv 3020809162, bv 3139331519] := by rw [rounds, tz1_r31]; decide +kernel
theorem tz1_r33 : rounds H0 tz1W 33 = [bv 57969292, bv 2635211412, bv 3531594549, bv 3762840636, bv 2803468577, bv 323128715, bv 7081378, bv 3020809162] := by rw [rounds, tz1_r32]; decide +kernel
theorem tz1_r34 : rounds H0 tz1W 34 = [bv 986139014, bv 57969292, bv 2635211412, bv 3531594549, bv 16914980, bv 2803468577, bv 323128715, bv 7081378] := by rw [rounds, tz1_r33]; decide +kernel
theorem tz1_r35 : rounds H0 tz1W 35 = [bv 756089331, bv 986139014, bv 57969292, bv 2635211412, bv 76854772, bv 16914980, bv 2803468577, bv 323128715] := by rw [rounds, tz1_r34]; decide +kernel
theorem tz1_r36 : rounds H0 tz1W 36 = [bv 2375036435, bv 756089331, bv 986139014, bv 57969292, bv 2121425633, bv 76854772, bv 16914980, bv 2803468577] := by rw [rounds, tz1_r35]; decide +kernel
theorem tz1_r37 : rounds H0 tz1W 37 = [bv 3448310505, bv 2375036435, bv 756089331, bv 986139014, bv 3492569775, bv 2121425633, bv 76854772, bv 16914980] := by rw [rounds, tz1_r36]; decide +kernel
theorem tz1_r38 : rounds H0 tz1W 38 = [bv 4102091440, bv 3448310505, bv 2375036435, bv 756089331, bv 2712643455, bv 3492569775, bv 2121425633, bv 76854772] := by rw [rounds, tz1_r37]; decide +kernel
theorem tz1_r39 : rounds H0 tz1W 39 = [bv 387287617, bv 4102091440, bv 3448310505, bv 2375036435, bv 3409511946, bv 2712643455, bv 3492569775, bv 2121425633] := by rw [rounds, tz1_r38]; decide +kernel
theorem tz1_r40 : rounds H0 tz1W 40 = [bv 3411779022, bv 387287617, bv 4102091440, bv 3448310505, bv 1099260576, bv 3409511946, bv 2712643455, bv 3492569775] := by rw [rounds, tz1_r39]; decide +kernel
theorem tz1_r41 : rounds H0 tz1W 41 = [bv 544709384, bv 3411779022, bv 387287617, bv 4102091440, bv 3826746543, bv 1099260576, bv 3409511946, bv 2712643455] := by rw [rounds, tz1_r40]; decide +kernel
theorem tz1_r42 : rounds H0 tz1W 42 = [bv 2166311404, bv 544709384, bv 3411779022, bv 387287617, bv 1679285077, bv 3826746543, bv 1099260576, bv 3409511946] := by rw [rounds, tz1_r41]; decide +kernel
theorem tz1_r43 : rounds H0 tz1W 43 = [bv 3251952398, bv 2166311404, bv 544709384, bv 3411779022, bv 1166435070, bv 1679285077, bv 3826746543, bv 1099260576] := by rw [rounds, tz1_r42]; decide +kernel
theorem tz1_r44 : rounds H0 tz1W 44 = [bv 58438043, bv 3251952398, bv 2166311404, bv 544709384, bv 303067387, bv 1166435070, bv 1679285077, bv 3826746543] := by rw [rounds, tz1_r43]; decide +kernel
theorem tz1_r45 : rounds H0 tz1W 45 = [bv 2454457982, bv 58438043, bv 3251952398, bv 2166311404, bv 2393060418, bv 303067387, bv 1166435070, bv 1679285077] := by rw [rounds, tz1_r44]; decide +kernel
theorem tz1_r46 : rounds H0 tz1W 46 = [bv 1303529463, bv 2454457982, bv 58438043, bv 3251952398, bv 1679198991, bv 2393060418, bv 303067387, bv 1166435070] := by rw [rounds, tz1_r45]; decide +kernel
theorem tz1_r47 : rounds H0 tz1W 47 = [bv 2822253759, bv 1303529463, bv 2454457982, bv 58438043, bv 1086971509, bv 1679198991, bv 2393060418, bv 303067387] := by rw [rounds, tz1_r46]; decide +kernel
theorem tz1_r48 : rounds H0 tz1W 48 = [bv 1739926005, bv 2822253759, bv 1303529463, bv 2454457982, bv 1941379139, bv 1086971509, bv 1679198991, bv 2393060418] := by rw [rounds, tz1_r47]; decide +kernel
theorem tz1_r49 : rounds H0 tz1W 49 = [bv 3216443448, bv 1739926005, bv 2822253759, bv 1303529463, bv 561071733, bv 1941379139, bv 1086971509, bv 1679198991] := by rw [rounds, tz1_r48]; decide +kernel
theorem tz1_r50 : rounds H0 tz1W 50 = [bv 532685710, bv 3216443448, bv 1739926005, bv 2822253759, bv 196371840, bv 561071733, bv 1941379139, bv 1086971509] := by rw [rounds, tz1_r49]; decide +kernel
theorem tz1_r51 : rounds H0 tz1W 51 = [bv 2300742231, bv 532685710, bv 3216443448, bv 1739926005, bv 1452719805, bv 196371840, bv 561071733, bv 1941379139] := by rw [rounds, tz1_r50]; decide +kernel
theorem tz1_r52 : rounds H0 tz1W 52 = [bv 4212240845, bv 2300742231, bv 532685710, bv 3216443448, bv 2286361599, bv 1452719805, bv 196371840, bv 561071733] := by rw [rounds, tz1_r51]; decide +kernel
theorem tz1_r53 : rounds H0 tz1W 53 = [bv 1159551914, bv 4212240845, bv 2300742231, bv 532685710, bv 3009887489, bv 2286361599, bv 1452719805, bv 196371840] := by rw [rounds, tz1_r52]; decide +kernel
theorem tz1_r54 : rounds H0 tz1W 54 = [bv 1248933122, bv 1159551914, bv 4212240845, bv 2300742231, bv 1738794413, bv 3009887489, bv 2286361599, bv 1452719805] := by rw [rounds, tz1_r53]; decide +kernel
theorem tz1_r55 : rounds H0 tz1W 55 = [bv 3947044934, bv 1248933122, bv 1159551914, bv 4212240845, bv 721051955, bv 1738794413, bv 3009887489, bv 2286361599] := by rw [rounds, tz1_r54]; decide +kernel
theorem tz1_r56 : rounds H0 tz1W 56 = [bv 2077275994, bv 3947044934, bv 1248933122, bv 1159551914, bv 1999285888, bv 721051955, bv 1738794413, bv 3009887489] := by rw [rounds, tz1_r55]; decide +kernel
theorem tz1_r57 : rounds H0 tz1W 57 = [bv 326188283, bv 2077275994, bv 3947044934, bv 1248933122, bv 2252523687, bv 1999285888, bv 721051955, bv 1738794413] := by rw [rounds, tz1_r56]; decide +kernel
theorem tz1_r58 : rounds H0 tz1W 58 = [bv 3681591359, bv 326188283, bv 2077275994, bv 3947044934, bv 3264833517, bv 2252523687, bv 1999285888, bv 721051955] := by rw [rounds, tz1_r57]; decide +kernel
theorem tz1_r59 : rounds H0 tz1W 59 = [bv 1741259233, bv 3681591359, bv 326188283, bv 2077275994, bv 3254378693, bv 3264833517, bv 2252523687, bv 1999285888] := by rw [rounds, tz1_r58]; decide +kernel
theorem tz1_r60 : rounds H0 tz1W 60 = [bv 3326450349, bv 1741259233, bv 3681591359, bv 326188283, bv 2108020065, bv 3254378693, bv 3264833517, bv 2252523687] := by rw [rounds, tz1_r59]; decide +kernel
theorem tz1_r61 : rounds H0 tz1W 61 = [bv 2028044279, bv 3326450349, bv 1741259233, bv 3681591359, bv 310073511, bv 2108020065, bv 3254378693, bv 3264833517] := by rw [rounds, tz1_r60]; decide +kernel
theorem tz1_r62 : rounds H0 tz1W 62 = [bv 2735083404, bv 2028044279, bv 3326450349, bv 1741259233, bv 1933102801, bv 310073511, bv 2108020065, bv 3254378693] := by rw [rounds, tz1_r61]; decide +kernel
theorem tz1_r63 : rounds H0 tz1W 63 = [bv 3786994067, bv 2735083404, bv 2028044279, bv 3326450349, bv 446868072, bv 1933102801, bv 310073511, bv 2108020065] := by rw [rounds, tz1_r62]; decide +kernel
theorem tz1_r64 : rounds H0 tz1W 64 = [bv 3812863514, bv 3786994067, bv 2735083404, bv 2028044279, bv 816925451, bv 446868072, bv 1933102801, bv 310073511] := by rw [rounds, tz1_r63]; decide +kernel
theorem tz1_k : block H0 tz1B = [bv 1296929921, bv 2636161048, bv 3748987646, bv 506557745, bv 2176818570, bv 3047690996, bv 2461837436, bv 1851532736] := by rw [block, tz1_s, tz1_r64]; decide +kernel
theorem sum_tz1 : sum tz1T = [77, 77, 148, 129, 157, 32, 160, 24, 223, 117, 2, 254, 30, 49, 117, 49, 129, 191, 157, 138, 181, 168, 18, 244, 146, 188, 168, 124, 110, 92, 37, 192] := by
  have e : (pad tz1T).length / 64 = 0 + 1 := by decide +kernel
  rw [sum, e, blocks, tz1_b]
  show out (block H0 tz1B) = _
  rw [tz1_k]
  decide +kernel
end Go.Sha

/- Numbers, texts and lists as bytes: there and back. -/
namespace Go.Oct
theorem getD_at {α : Type} (a b : List α) (i : Nat) (d : α) : (a ++ b).getD (a.length + i) d = b.getD i d := by
  simp [List.getD_eq_getElem?_getD, List.getElem?_append_right]
theorem getD_at0 {α : Type} (a b : List α) (d : α) : (a ++ b).getD a.length d = b.getD 0 d := getD_at a b 0 d
theorem drop_at {α : Type} (a b : List α) (i : Nat) : (a ++ b).drop (a.length + i) = b.drop i := by
  rw [List.drop_append, List.drop_eq_nil_of_le (by omega), List.nil_append]
  congr 1
  omega

/-! ### What was read is laid as it was -/
/-! ### What stands behind changes nothing -/
theorem getD_left {α : Type} {a : List α} (b : List α) {i : Nat} (d : α) (h : i < a.length) : (a ++ b).getD i d = a.getD i d := by
  simp [List.getD_eq_getElem?_getD, List.getElem?_append_left h]
theorem number_len {n : Int} (hn : n ≤ 9223372036854775807) : (number n).1.length ≤ 9 := by
  unfold number
  split
  · simp
  · exact numL_le (by omega)
theorem list_len {l : List (List UInt8)} : (list l).1.length ≤ 80000 := by
  unfold list
  split
  · simp
  · exact listL_le (by omega) (by omega)
end Go.Oct

/- Keys and tags, in plain Lean. -/
namespace Go.Seal
def Z : List UInt8 := List.replicate 32 0
def key (who : Int) : List UInt8 × Int := if who < 0 ∨ 64 < who then (Z, 20) else (Sha.sum ([107, 101, 121] ++ (Oct.number who).1), 0)
def tag (who dom : Int) (body : List UInt8) : List UInt8 × Int :=
  if (key who).2 ≠ 0 then (Z, (key who).2) else if dom < 1 ∨ 4 < dom then (Z, 2) else (Sha.sum ((key who).1 ++ ([UInt8.ofNat dom.toNat] ++ body)), 0)
theorem blen_small {m : Nat} (h0 : 0 < m) (h : m < 256) : Oct.blen m = 1 := Oct.blen_eq 1 m (by simpa using h) (.inr (by simp; omega))
theorem num0 : (Oct.number 0).1 = [0] := by decide
theorem num1 {who : Int} (h0 : 0 < who) (h : who < 256) : (Oct.number who).1 = [1, UInt8.ofNat who.toNat] := by
  unfold Oct.number
  rw [if_neg (by omega)]
  show Oct.numL who.toNat = _
  unfold Oct.numL
  rw [blen_small (by omega) (by omega)]
  simp [Oct.lows]
end Go.Seal
