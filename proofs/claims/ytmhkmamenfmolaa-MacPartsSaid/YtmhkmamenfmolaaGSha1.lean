/- What the functions of package sha that make no sums answer, by facts. Conditions: lengths below 2^40. -/
import Derived.Test.YtmhkmamenfmolaaGOct
import Derived.Test.YtmhkmamenfmolaaShaP
import Derived.Test.YtmhkmamenfmolaaProg
import Derived.Test.YtmhkmamenfmolaaFwK
namespace Go.Proofs.Ytmhkmamenfmolaa
set_option linter.unusedVariables false
set_option linter.unusedSimpArgs false
set_option linter.unnecessarySimpa false
open Go.RowKit Bv Fw

set_option maxHeartbeats 4000000 in
theorem words_f  (w : World) (hO : HOK [] w)  : Calls Try.prog 21 [].toArray w (Ret (T := Unit) [] w (fun _ => True) (fun _ => (.agg (shaK.map b32).toArray)) (fun _ => [])) := by
  have hkl := shaK_len
  have hF : Wid Fence.wide := wid_wide
  refine enter (c := _) Try.func21 rfl [] [] [] (by rw [Try.ntmps21]; rfl) (own_rds hO rfl) ?_
  rw [Try.ntmps21]
  refine T_re [] sn ?_
  refine T_he [] [] ⟨by decide, rfl⟩ ?_
  refine T_seq ?_
  refine T_reg hF rfl ?_
  refine L_op rfl (op_alloc (z := .agg ((List.replicate 64 0#32).map b32).toArray) (zs := ((List.replicate 64 0#32).map b32)) (by kernel_rfl) rfl rfl rfl rfl (fun g1 => ?_))
  refine L_nil ?_
  refine T_re [(0, (.pointer (some ⟨g1, 0, none⟩)))] (sc rfl sn) ?_
  refine T_he [0] [.blk g1 33 ((List.replicate 64 0#32).map b32)] ⟨by decide, rfl⟩ ?_
  refine T_seq ?_
  refine T_reg hF rfl ?_
  refine L_op rfl (op_pr (pr_build (qs := [(0, (b32 (1116352408#32))), (1, (b32 (1899447441#32))), (2, (b32 (3049323471#32))), (3, (b32 (3921009573#32))), (4, (b32 (961987163#32))), (5, (b32 (1508970993#32))), (6, (b32 (2453635748#32))), (7, (b32 (2870763221#32))), (8, (b32 (3624381080#32))), (9, (b32 (310598401#32))), (10, (b32 (607225278#32))), (11, (b32 (1426881987#32))), (12, (b32 (1925078388#32))), (13, (b32 (2162078206#32))), (14, (b32 (2614888103#32))), (15, (b32 (3248222580#32))), (16, (b32 (3835390401#32))), (17, (b32 (4022224774#32))), (18, (b32 (264347078#32))), (19, (b32 (604807628#32))), (20, (b32 (770255983#32))), (21, (b32 (1249150122#32))), (22, (b32 (1555081692#32))), (23, (b32 (1996064986#32))), (24, (b32 (2554220882#32))), (25, (b32 (2821834349#32))), (26, (b32 (2952996808#32))), (27, (b32 (3210313671#32))), (28, (b32 (3336571891#32))), (29, (b32 (3584528711#32))), (30, (b32 (113926993#32))), (31, (b32 (338241895#32))), (32, (b32 (666307205#32))), (33, (b32 (773529912#32))), (34, (b32 (1294757372#32))), (35, (b32 (1396182291#32))), (36, (b32 (1695183700#32))), (37, (b32 (1986661051#32))), (38, (b32 (2177026350#32))), (39, (b32 (2456956037#32))), (40, (b32 (2730485921#32))), (41, (b32 (2820302411#32))), (42, (b32 (3259730800#32))), (43, (b32 (3345764771#32))), (44, (b32 (3516065817#32))), (45, (b32 (3600352804#32))), (46, (b32 (4094571909#32))), (47, (b32 (275423344#32))), (48, (b32 (430227734#32))), (49, (b32 (506948616#32))), (50, (b32 (659060556#32))), (51, (b32 (883997877#32))), (52, (b32 (958139571#32))), (53, (b32 (1322822218#32))), (54, (b32 (1537002063#32))), (55, (b32 (1747873779#32))), (56, (b32 (1955562222#32))), (57, (b32 (2024104815#32))), (58, (b32 (2227730452#32))), (59, (b32 (2361852424#32))), (60, (b32 (2428436474#32))), (61, (b32 (2756734187#32))), (62, (b32 (3204031479#32))), (63, (b32 (3329325298#32)))]) (v := .agg ([1116352408#32, 1899447441#32, 3049323471#32, 3921009573#32, 961987163#32, 1508970993#32, 2453635748#32, 2870763221#32, 3624381080#32, 310598401#32, 607225278#32, 1426881987#32, 1925078388#32, 2162078206#32, 2614888103#32, 3248222580#32, 3835390401#32, 4022224774#32, 264347078#32, 604807628#32, 770255983#32, 1249150122#32, 1555081692#32, 1996064986#32, 2554220882#32, 2821834349#32, 2952996808#32, 3210313671#32, 3336571891#32, 3584528711#32, 113926993#32, 338241895#32, 666307205#32, 773529912#32, 1294757372#32, 1396182291#32, 1695183700#32, 1986661051#32, 2177026350#32, 2456956037#32, 2730485921#32, 2820302411#32, 3259730800#32, 3345764771#32, 3516065817#32, 3600352804#32, 4094571909#32, 275423344#32, 430227734#32, 506948616#32, 659060556#32, 883997877#32, 958139571#32, 1322822218#32, 1537002063#32, 1747873779#32, 1955562222#32, 2024104815#32, 2227730452#32, 2361852424#32, 2428436474#32, 2756734187#32, 3204031479#32, 3329325298#32].map b32).toArray) (fun _ => by kernel_rfl) rfl rfl) rfl rfl ?_)
  refine L_op rfl (op_store (vs := ([1116352408#32, 1899447441#32, 3049323471#32, 3921009573#32, 961987163#32, 1508970993#32, 2453635748#32, 2870763221#32, 3624381080#32, 310598401#32, 607225278#32, 1426881987#32, 1925078388#32, 2162078206#32, 2614888103#32, 3248222580#32, 3835390401#32, 4022224774#32, 264347078#32, 604807628#32, 770255983#32, 1249150122#32, 1555081692#32, 1996064986#32, 2554220882#32, 2821834349#32, 2952996808#32, 3210313671#32, 3336571891#32, 3584528711#32, 113926993#32, 338241895#32, 666307205#32, 773529912#32, 1294757372#32, 1396182291#32, 1695183700#32, 1986661051#32, 2177026350#32, 2456956037#32, 2730485921#32, 2820302411#32, 3259730800#32, 3345764771#32, 3516065817#32, 3600352804#32, 4094571909#32, 275423344#32, 430227734#32, 506948616#32, 659060556#32, 883997877#32, 958139571#32, 1322822218#32, 1537002063#32, 1747873779#32, 1955562222#32, 2024104815#32, 2227730452#32, 2361852424#32, 2428436474#32, 2756734187#32, 3204031479#32, 3329325298#32].map b32)) (cs' := ([1116352408#32, 1899447441#32, 3049323471#32, 3921009573#32, 961987163#32, 1508970993#32, 2453635748#32, 2870763221#32, 3624381080#32, 310598401#32, 607225278#32, 1426881987#32, 1925078388#32, 2162078206#32, 2614888103#32, 3248222580#32, 3835390401#32, 4022224774#32, 264347078#32, 604807628#32, 770255983#32, 1249150122#32, 1555081692#32, 1996064986#32, 2554220882#32, 2821834349#32, 2952996808#32, 3210313671#32, 3336571891#32, 3584528711#32, 113926993#32, 338241895#32, 666307205#32, 773529912#32, 1294757372#32, 1396182291#32, 1695183700#32, 1986661051#32, 2177026350#32, 2456956037#32, 2730485921#32, 2820302411#32, 3259730800#32, 3345764771#32, 3516065817#32, 3600352804#32, 4094571909#32, 275423344#32, 430227734#32, 506948616#32, 659060556#32, 883997877#32, 958139571#32, 1322822218#32, 1537002063#32, 1747873779#32, 1955562222#32, 2024104815#32, 2227730452#32, 2361852424#32, 2428436474#32, 2756734187#32, 3204031479#32, 3329325298#32].map b32)) 0 rfl rfl (by kernel_rfl) (all32_one _) (by have h1 : (((List.replicate 64 0#32).map b32)).length = 64 := (by kernel_rfl); have h2 : (([1116352408#32, 1899447441#32, 3049323471#32, 3921009573#32, 961987163#32, 1508970993#32, 2453635748#32, 2870763221#32, 3624381080#32, 310598401#32, 607225278#32, 1426881987#32, 1925078388#32, 2162078206#32, 2614888103#32, 3248222580#32, 3835390401#32, 4022224774#32, 264347078#32, 604807628#32, 770255983#32, 1249150122#32, 1555081692#32, 1996064986#32, 2554220882#32, 2821834349#32, 2952996808#32, 3210313671#32, 3336571891#32, 3584528711#32, 113926993#32, 338241895#32, 666307205#32, 773529912#32, 1294757372#32, 1396182291#32, 1695183700#32, 1986661051#32, 2177026350#32, 2456956037#32, 2730485921#32, 2820302411#32, 3259730800#32, 3345764771#32, 3516065817#32, 3600352804#32, 4094571909#32, 275423344#32, 430227734#32, 506948616#32, 659060556#32, 883997877#32, 958139571#32, 1322822218#32, 1537002063#32, 1747873779#32, 1955562222#32, 2024104815#32, 2227730452#32, 2361852424#32, 2428436474#32, 2756734187#32, 3204031479#32, 3329325298#32].map b32)).length = 64 := (by kernel_rfl); omega) (splice_all (Eq.trans (b := 64) (by kernel_rfl) (Eq.symm (by kernel_rfl)))) rfl rfl rfl rfl ?_)
  refine L_nil ?_
  refine T_re [(0, (.pointer (some ⟨g1, 0, none⟩)))] (sc rfl sn) ?_
  refine T_he [0] [.blk g1 33 ([1116352408#32, 1899447441#32, 3049323471#32, 3921009573#32, 961987163#32, 1508970993#32, 2453635748#32, 2870763221#32, 3624381080#32, 310598401#32, 607225278#32, 1426881987#32, 1925078388#32, 2162078206#32, 2614888103#32, 3248222580#32, 3835390401#32, 4022224774#32, 264347078#32, 604807628#32, 770255983#32, 1249150122#32, 1555081692#32, 1996064986#32, 2554220882#32, 2821834349#32, 2952996808#32, 3210313671#32, 3336571891#32, 3584528711#32, 113926993#32, 338241895#32, 666307205#32, 773529912#32, 1294757372#32, 1396182291#32, 1695183700#32, 1986661051#32, 2177026350#32, 2456956037#32, 2730485921#32, 2820302411#32, 3259730800#32, 3345764771#32, 3516065817#32, 3600352804#32, 4094571909#32, 275423344#32, 430227734#32, 506948616#32, 659060556#32, 883997877#32, 958139571#32, 1322822218#32, 1537002063#32, 1747873779#32, 1955562222#32, 2024104815#32, 2227730452#32, 2361852424#32, 2428436474#32, 2756734187#32, 3204031479#32, 3329325298#32].map b32)] ⟨by decide, rfl⟩ ?_
  refine T_ret ?_
  refine T_as 0 (.blk g1 33 ([1116352408#32, 1899447441#32, 3049323471#32, 3921009573#32, 961987163#32, 1508970993#32, 2453635748#32, 2870763221#32, 3624381080#32, 310598401#32, 607225278#32, 1426881987#32, 1925078388#32, 2162078206#32, 2614888103#32, 3248222580#32, 3835390401#32, 4022224774#32, 264347078#32, 604807628#32, 770255983#32, 1249150122#32, 1555081692#32, 1996064986#32, 2554220882#32, 2821834349#32, 2952996808#32, 3210313671#32, 3336571891#32, 3584528711#32, 113926993#32, 338241895#32, 666307205#32, 773529912#32, 1294757372#32, 1396182291#32, 1695183700#32, 1986661051#32, 2177026350#32, 2456956037#32, 2730485921#32, 2820302411#32, 3259730800#32, 3345764771#32, 3516065817#32, 3600352804#32, 4094571909#32, 275423344#32, 430227734#32, 506948616#32, 659060556#32, 883997877#32, 958139571#32, 1322822218#32, 1537002063#32, 1747873779#32, 1955562222#32, 2024104815#32, 2227730452#32, 2361852424#32, 2428436474#32, 2756734187#32, 3204031479#32, 3329325298#32].map b32)) (.blk g1 33 (shaK.map b32)) rfl (by unfold shaK; rfl) ?_
  exact T_fin () (by first | trivial | omega | (simp; done)) (resb 0 rfl rfl rfl Try.underlying33 rfl (by rw [show ((shaK.map b32)).length = 64 from (by first | omega | (simp; done) | (simp; omega) | (simp [*]; done) | (simp [*]; omega))]; kernel_rfl)) [] ⟨by decide, rfl⟩ rfl
set_option maxHeartbeats 4000000 in
theorem rwords_f  (w : World) (hO : HOK [] w)  : Calls Try.prog 22 [].toArray w (Ret (T := Unit) [] w (fun _ => True) (fun _ => (.agg (shaK.map b32).toArray)) (fun _ => [])) := by
  have hkl := shaK_len
  have hF : Wid Fence.wide := wid_wide
  refine enter (c := _) Try.func22 rfl [] [] [] (by rw [Try.ntmps22]; rfl) (own_rds hO rfl) ?_
  rw [Try.ntmps22]
  refine T_re [] sn ?_
  refine T_he [] [] ⟨by decide, rfl⟩ ?_
  refine T_seq ?_
  refine T_reg hF rfl ?_
  refine L_op rfl (op_alloc (z := .agg ((List.replicate 64 0#32).map b32).toArray) (zs := ((List.replicate 64 0#32).map b32)) (by kernel_rfl) rfl rfl rfl rfl (fun g1 => ?_))
  refine L_nil ?_
  refine T_re [(0, (.pointer (some ⟨g1, 0, none⟩)))] (sc rfl sn) ?_
  refine T_he [0] [.blk g1 33 ((List.replicate 64 0#32).map b32)] ⟨by decide, rfl⟩ ?_
  refine T_seq ?_
  refine T_reg hF rfl ?_
  refine L_op rfl (op_pr (pr_build (qs := [(0, (b32 (1116352408#32))), (1, (b32 (1899447441#32))), (2, (b32 (3049323471#32))), (3, (b32 (3921009573#32))), (4, (b32 (961987163#32))), (5, (b32 (1508970993#32))), (6, (b32 (2453635748#32))), (7, (b32 (2870763221#32))), (8, (b32 (3624381080#32))), (9, (b32 (310598401#32))), (10, (b32 (607225278#32))), (11, (b32 (1426881987#32))), (12, (b32 (1925078388#32))), (13, (b32 (2162078206#32))), (14, (b32 (2614888103#32))), (15, (b32 (3248222580#32))), (16, (b32 (3835390401#32))), (17, (b32 (4022224774#32))), (18, (b32 (264347078#32))), (19, (b32 (604807628#32))), (20, (b32 (770255983#32))), (21, (b32 (1249150122#32))), (22, (b32 (1555081692#32))), (23, (b32 (1996064986#32))), (24, (b32 (2554220882#32))), (25, (b32 (2821834349#32))), (26, (b32 (2952996808#32))), (27, (b32 (3210313671#32))), (28, (b32 (3336571891#32))), (29, (b32 (3584528711#32))), (30, (b32 (113926993#32))), (31, (b32 (338241895#32))), (32, (b32 (666307205#32))), (33, (b32 (773529912#32))), (34, (b32 (1294757372#32))), (35, (b32 (1396182291#32))), (36, (b32 (1695183700#32))), (37, (b32 (1986661051#32))), (38, (b32 (2177026350#32))), (39, (b32 (2456956037#32))), (40, (b32 (2730485921#32))), (41, (b32 (2820302411#32))), (42, (b32 (3259730800#32))), (43, (b32 (3345764771#32))), (44, (b32 (3516065817#32))), (45, (b32 (3600352804#32))), (46, (b32 (4094571909#32))), (47, (b32 (275423344#32))), (48, (b32 (430227734#32))), (49, (b32 (506948616#32))), (50, (b32 (659060556#32))), (51, (b32 (883997877#32))), (52, (b32 (958139571#32))), (53, (b32 (1322822218#32))), (54, (b32 (1537002063#32))), (55, (b32 (1747873779#32))), (56, (b32 (1955562222#32))), (57, (b32 (2024104815#32))), (58, (b32 (2227730452#32))), (59, (b32 (2361852424#32))), (60, (b32 (2428436474#32))), (61, (b32 (2756734187#32))), (62, (b32 (3204031479#32))), (63, (b32 (3329325298#32)))]) (v := .agg ([1116352408#32, 1899447441#32, 3049323471#32, 3921009573#32, 961987163#32, 1508970993#32, 2453635748#32, 2870763221#32, 3624381080#32, 310598401#32, 607225278#32, 1426881987#32, 1925078388#32, 2162078206#32, 2614888103#32, 3248222580#32, 3835390401#32, 4022224774#32, 264347078#32, 604807628#32, 770255983#32, 1249150122#32, 1555081692#32, 1996064986#32, 2554220882#32, 2821834349#32, 2952996808#32, 3210313671#32, 3336571891#32, 3584528711#32, 113926993#32, 338241895#32, 666307205#32, 773529912#32, 1294757372#32, 1396182291#32, 1695183700#32, 1986661051#32, 2177026350#32, 2456956037#32, 2730485921#32, 2820302411#32, 3259730800#32, 3345764771#32, 3516065817#32, 3600352804#32, 4094571909#32, 275423344#32, 430227734#32, 506948616#32, 659060556#32, 883997877#32, 958139571#32, 1322822218#32, 1537002063#32, 1747873779#32, 1955562222#32, 2024104815#32, 2227730452#32, 2361852424#32, 2428436474#32, 2756734187#32, 3204031479#32, 3329325298#32].map b32).toArray) (fun _ => by kernel_rfl) rfl rfl) rfl rfl ?_)
  refine L_op rfl (op_store (vs := ([1116352408#32, 1899447441#32, 3049323471#32, 3921009573#32, 961987163#32, 1508970993#32, 2453635748#32, 2870763221#32, 3624381080#32, 310598401#32, 607225278#32, 1426881987#32, 1925078388#32, 2162078206#32, 2614888103#32, 3248222580#32, 3835390401#32, 4022224774#32, 264347078#32, 604807628#32, 770255983#32, 1249150122#32, 1555081692#32, 1996064986#32, 2554220882#32, 2821834349#32, 2952996808#32, 3210313671#32, 3336571891#32, 3584528711#32, 113926993#32, 338241895#32, 666307205#32, 773529912#32, 1294757372#32, 1396182291#32, 1695183700#32, 1986661051#32, 2177026350#32, 2456956037#32, 2730485921#32, 2820302411#32, 3259730800#32, 3345764771#32, 3516065817#32, 3600352804#32, 4094571909#32, 275423344#32, 430227734#32, 506948616#32, 659060556#32, 883997877#32, 958139571#32, 1322822218#32, 1537002063#32, 1747873779#32, 1955562222#32, 2024104815#32, 2227730452#32, 2361852424#32, 2428436474#32, 2756734187#32, 3204031479#32, 3329325298#32].map b32)) (cs' := ([1116352408#32, 1899447441#32, 3049323471#32, 3921009573#32, 961987163#32, 1508970993#32, 2453635748#32, 2870763221#32, 3624381080#32, 310598401#32, 607225278#32, 1426881987#32, 1925078388#32, 2162078206#32, 2614888103#32, 3248222580#32, 3835390401#32, 4022224774#32, 264347078#32, 604807628#32, 770255983#32, 1249150122#32, 1555081692#32, 1996064986#32, 2554220882#32, 2821834349#32, 2952996808#32, 3210313671#32, 3336571891#32, 3584528711#32, 113926993#32, 338241895#32, 666307205#32, 773529912#32, 1294757372#32, 1396182291#32, 1695183700#32, 1986661051#32, 2177026350#32, 2456956037#32, 2730485921#32, 2820302411#32, 3259730800#32, 3345764771#32, 3516065817#32, 3600352804#32, 4094571909#32, 275423344#32, 430227734#32, 506948616#32, 659060556#32, 883997877#32, 958139571#32, 1322822218#32, 1537002063#32, 1747873779#32, 1955562222#32, 2024104815#32, 2227730452#32, 2361852424#32, 2428436474#32, 2756734187#32, 3204031479#32, 3329325298#32].map b32)) 0 rfl rfl (by kernel_rfl) (all32_one _) (by have h1 : (((List.replicate 64 0#32).map b32)).length = 64 := (by kernel_rfl); have h2 : (([1116352408#32, 1899447441#32, 3049323471#32, 3921009573#32, 961987163#32, 1508970993#32, 2453635748#32, 2870763221#32, 3624381080#32, 310598401#32, 607225278#32, 1426881987#32, 1925078388#32, 2162078206#32, 2614888103#32, 3248222580#32, 3835390401#32, 4022224774#32, 264347078#32, 604807628#32, 770255983#32, 1249150122#32, 1555081692#32, 1996064986#32, 2554220882#32, 2821834349#32, 2952996808#32, 3210313671#32, 3336571891#32, 3584528711#32, 113926993#32, 338241895#32, 666307205#32, 773529912#32, 1294757372#32, 1396182291#32, 1695183700#32, 1986661051#32, 2177026350#32, 2456956037#32, 2730485921#32, 2820302411#32, 3259730800#32, 3345764771#32, 3516065817#32, 3600352804#32, 4094571909#32, 275423344#32, 430227734#32, 506948616#32, 659060556#32, 883997877#32, 958139571#32, 1322822218#32, 1537002063#32, 1747873779#32, 1955562222#32, 2024104815#32, 2227730452#32, 2361852424#32, 2428436474#32, 2756734187#32, 3204031479#32, 3329325298#32].map b32)).length = 64 := (by kernel_rfl); omega) (splice_all (Eq.trans (b := 64) (by kernel_rfl) (Eq.symm (by kernel_rfl)))) rfl rfl rfl rfl ?_)
  refine L_nil ?_
  refine T_re [(0, (.pointer (some ⟨g1, 0, none⟩)))] (sc rfl sn) ?_
  refine T_he [0] [.blk g1 33 ([1116352408#32, 1899447441#32, 3049323471#32, 3921009573#32, 961987163#32, 1508970993#32, 2453635748#32, 2870763221#32, 3624381080#32, 310598401#32, 607225278#32, 1426881987#32, 1925078388#32, 2162078206#32, 2614888103#32, 3248222580#32, 3835390401#32, 4022224774#32, 264347078#32, 604807628#32, 770255983#32, 1249150122#32, 1555081692#32, 1996064986#32, 2554220882#32, 2821834349#32, 2952996808#32, 3210313671#32, 3336571891#32, 3584528711#32, 113926993#32, 338241895#32, 666307205#32, 773529912#32, 1294757372#32, 1396182291#32, 1695183700#32, 1986661051#32, 2177026350#32, 2456956037#32, 2730485921#32, 2820302411#32, 3259730800#32, 3345764771#32, 3516065817#32, 3600352804#32, 4094571909#32, 275423344#32, 430227734#32, 506948616#32, 659060556#32, 883997877#32, 958139571#32, 1322822218#32, 1537002063#32, 1747873779#32, 1955562222#32, 2024104815#32, 2227730452#32, 2361852424#32, 2428436474#32, 2756734187#32, 3204031479#32, 3329325298#32].map b32)] ⟨by decide, rfl⟩ ?_
  refine T_ret ?_
  refine T_as 0 (.blk g1 33 ([1116352408#32, 1899447441#32, 3049323471#32, 3921009573#32, 961987163#32, 1508970993#32, 2453635748#32, 2870763221#32, 3624381080#32, 310598401#32, 607225278#32, 1426881987#32, 1925078388#32, 2162078206#32, 2614888103#32, 3248222580#32, 3835390401#32, 4022224774#32, 264347078#32, 604807628#32, 770255983#32, 1249150122#32, 1555081692#32, 1996064986#32, 2554220882#32, 2821834349#32, 2952996808#32, 3210313671#32, 3336571891#32, 3584528711#32, 113926993#32, 338241895#32, 666307205#32, 773529912#32, 1294757372#32, 1396182291#32, 1695183700#32, 1986661051#32, 2177026350#32, 2456956037#32, 2730485921#32, 2820302411#32, 3259730800#32, 3345764771#32, 3516065817#32, 3600352804#32, 4094571909#32, 275423344#32, 430227734#32, 506948616#32, 659060556#32, 883997877#32, 958139571#32, 1322822218#32, 1537002063#32, 1747873779#32, 1955562222#32, 2024104815#32, 2227730452#32, 2361852424#32, 2428436474#32, 2756734187#32, 3204031479#32, 3329325298#32].map b32)) (.blk g1 33 (shaK.map b32)) rfl (by unfold shaK; rfl) ?_
  exact T_fin () (by first | trivial | omega | (simp; done)) (resb 0 rfl rfl rfl Try.underlying33 rfl (by rw [show ((shaK.map b32)).length = 64 from (by first | omega | (simp; done) | (simp; omega) | (simp [*]; done) | (simp [*]; omega))]; kernel_rfl)) [] ⟨by decide, rfl⟩ rfl
set_option maxHeartbeats 4000000 in
theorem rotl32_f (x : BitVec 32) (k : Int) (s : Nat) (w : World) (hO : HOK [] w) (hs : s < 32) (hk : k % 32 = (s : Int)) : Calls Try.prog 54 [(b32 x), (.int .i64 k)].toArray w (Ret (T := Unit) [] w (fun _ => True) (fun _ => (b32 (rol32 x s))) (fun _ => [])) := by
  have hF : Wid Fence.wide := wid_wide
  refine enter (c := _) Try.func54 rfl [] [(b32 x), (.int .i64 k)] [] (by rw [Try.ntmps54]; rfl) (own_rds hO rfl) ?_
  rw [Try.ntmps54]
  refine T_re [(0, (b32 x)), (1, (.int .i64 k))] (sc rfl (sc rfl sn)) ?_
  refine T_he [] [] ⟨by decide, rfl⟩ ?_
  refine T_seq ?_
  refine T_reg hF rfl ?_
  refine L_op rfl (op_pr (pr_assign rfl rfl) rfl rfl ?_)
  refine L_nil ?_
  refine T_re [(0, (b32 x)), (1, (.int .i64 k))] (sc rfl (sc rfl sn)) ?_
  refine T_he [] [] ⟨by decide, rfl⟩ ?_
  refine T_seq ?_
  refine T_reg hF rfl ?_
  refine L_op rfl (op_pr (pr_move rfl rfl) rfl rfl ?_)
  refine L_op rfl (op_pr (pr_cv (zc_u64 k) Try.underlying3 Try.underlying37 rfl rfl) rfl rfl ?_)
  refine L_op rfl (op_pr (pr_and (ib_and64 _ (31#64)) rfl rfl rfl) rfl rfl ?_)
  refine L_op rfl (op_pr (pr_assign rfl rfl) rfl rfl ?_)
  refine L_nil ?_
  refine T_re [(0, (b32 x)), (5, (b64 ((BitVec.ofInt 64 k) &&& 31#64)))] (sc rfl (sc rfl sn)) ?_
  refine T_he [] [] ⟨by decide, rfl⟩ ?_
  refine T_seq ?_
  refine T_reg hF rfl ?_
  refine L_op rfl (op_pr (pr_move rfl rfl) rfl rfl ?_)
  refine L_op rfl (op_pr (pr_move rfl rfl) rfl rfl ?_)
  refine L_op rfl (op_pr (pr_shift (sh_shl32 x _ (((BitVec.ofInt 64 k) &&& 31#64).toNat)) rfl rfl rfl rfl) rfl rfl ?_)
  refine L_op rfl (op_pr (pr_move rfl rfl) rfl rfl ?_)
  refine L_op rfl (op_pr (pr_move rfl rfl) rfl rfl ?_)
  refine L_op rfl (op_pr (pr_sub (sub64 (32#64) _) rfl rfl rfl) rfl rfl ?_)
  refine L_op rfl (op_pr (pr_shift (sh_shr32 x _ ((32#64 - ((BitVec.ofInt 64 k) &&& 31#64)).toNat)) rfl rfl rfl rfl) rfl rfl ?_)
  refine L_op rfl (op_pr (pr_or (ib_or32 _ _) rfl rfl rfl) rfl rfl ?_)
  refine L_op rfl (op_pr (pr_assign rfl rfl) rfl rfl ?_)
  refine L_nil ?_
  refine T_re [(4, (b32 ((x <<< (((BitVec.ofInt 64 k) &&& 31#64).toNat)) ||| (x >>> ((32#64 - ((BitVec.ofInt 64 k) &&& 31#64)).toNat)))))] (sc rfl sn) ?_
  refine T_he [] [] ⟨by decide, rfl⟩ ?_
  refine T_ret ?_
  refine T_slot 4 (b32 ((x <<< (((BitVec.ofInt 64 k) &&& 31#64).toNat)) ||| (x >>> ((32#64 - ((BitVec.ofInt 64 k) &&& 31#64)).toNat)))) (b32 (rol32 x s)) rfl (by rw [rot_and k s hs hk]; exact congrArg b32 (rol32_and x s hs)) ?_
  exact T_fin () (by first | trivial | omega | (simp; done)) (res1 rfl rfl) [] ⟨by decide, rfl⟩ rfl
set_option maxHeartbeats 4000000 in
theorem rotated_f (x : BitVec 32) (n : Nat) (w : World) (hO : HOK [] w) (h0 : 0 < n) (h1 : n < 32) : Calls Try.prog 48 [(b32 x), (.int .i64 ((n : Nat) : Int))].toArray w (Ret (T := Unit) [] w (fun _ => True) (fun _ => (b32 (ror32 x n))) (fun _ => [])) := by
  have hF : Wid Fence.wide := wid_wide
  refine enter (c := _) Try.func48 rfl [] [(b32 x), (.int .i64 ((n : Nat) : Int))] [] (by rw [Try.ntmps48]; rfl) (own_rds hO rfl) ?_
  rw [Try.ntmps48]
  refine T_re [(0, (b32 x)), (1, (.int .i64 ((n : Nat) : Int)))] (sc rfl (sc rfl sn)) ?_
  refine T_he [] [] ⟨by decide, rfl⟩ ?_
  refine T_seq ?_
  refine T_reg hF rfl ?_
  refine L_op rfl (op_pr (pr_assign rfl rfl) rfl rfl ?_)
  refine L_nil ?_
  refine T_re [(0, (b32 x)), (1, (.int .i64 ((n : Nat) : Int)))] (sc rfl (sc rfl sn)) ?_
  refine T_he [] [] ⟨by decide, rfl⟩ ?_
  refine T_seq ?_
  refine T_reg hF rfl ?_
  refine L_op rfl (op_pr (pr_move rfl rfl) rfl rfl ?_)
  refine L_op rfl (op_pr (pr_move rfl rfl) rfl rfl ?_)
  refine L_op rfl (op_pr (pr_un (un_negi (a := n) (by first | omega | (simp; done) | (simp; omega) | (simp [*]; done) | (simp [*]; omega))) rfl rfl) rfl rfl ?_)
  refine L_op rfl (op_call0 (vs := [(b32 x), (.int .i64 (-((n : Nat) : Int)))]) (cap := []) (fun w hw => rotl32_f x (-((n : Nat) : Int)) (32 - n) w (hok_nil w) (by first | omega | (simp; done) | (simp; omega) | (simp [*]; done) | (simp [*]; omega)) (by omega)) (enters_of Try.func54 (by kernel_rfl) rfl) rfl rfl rfl rfl rfl (fun t1 q2 => ?_))
  refine L_op rfl (op_pr (pr_assign rfl rfl) rfl rfl ?_)
  refine L_nil ?_
  refine T_re [(4, (b32 (rol32 x (32 - n))))] (sc rfl sn) ?_
  refine T_he [] [] ⟨by decide, rfl⟩ ?_
  refine T_ret ?_
  refine T_slot 4 (b32 (rol32 x (32 - n))) (b32 (ror32 x n)) rfl (by rw [rol_ror x n h0 h1]) ?_
  exact T_fin () (by first | trivial | omega | (simp; done)) (res1 rfl rfl) [] ⟨by decide, rfl⟩ rfl
set_option maxHeartbeats 4000000 in
theorem turn_f (x : BitVec 32) (n : Nat) (w : World) (hO : HOK [] w) (h0 : 0 < n) (h1 : n < 32) : Calls Try.prog 40 [(b32 x), (.int .i64 ((n : Nat) : Int))].toArray w (Ret (T := Unit) [] w (fun _ => True) (fun _ => (b32 (ror32 x n))) (fun _ => [])) := by
  have hF : Wid Fence.wide := wid_wide
  refine enter (c := _) Try.func40 rfl [] [(b32 x), (.int .i64 ((n : Nat) : Int))] [] (by rw [Try.ntmps40]; rfl) (own_rds hO rfl) ?_
  rw [Try.ntmps40]
  refine T_re [(0, (b32 x)), (1, (.int .i64 ((n : Nat) : Int)))] (sc rfl (sc rfl sn)) ?_
  refine T_he [] [] ⟨by decide, rfl⟩ ?_
  refine T_seq ?_
  refine T_reg hF rfl ?_
  refine L_op rfl (op_pr (pr_assign rfl rfl) rfl rfl ?_)
  refine L_nil ?_
  refine T_re [(0, (b32 x)), (1, (.int .i64 ((n : Nat) : Int)))] (sc rfl (sc rfl sn)) ?_
  refine T_he [] [] ⟨by decide, rfl⟩ ?_
  refine T_seq ?_
  refine T_reg hF rfl ?_
  refine L_op rfl (op_pr (pr_move rfl rfl) rfl rfl ?_)
  refine L_op rfl (op_pr (pr_move rfl rfl) rfl rfl ?_)
  refine L_op rfl (op_pr (pr_cv (ni_u64 (a := n) (by first | omega | (simp; done) | (simp; omega) | (simp [*]; done) | (simp [*]; omega))) Try.underlying3 Try.underlying37 rfl rfl) rfl rfl ?_)
  refine L_op rfl (op_pr (pr_shift (sh_shr32 x _ n) rfl rfl rfl rfl) rfl rfl ?_)
  refine L_op rfl (op_pr (pr_move rfl rfl) rfl rfl ?_)
  refine L_op rfl (op_pr (pr_move rfl rfl) rfl rfl ?_)
  refine L_op rfl (op_pr (pr_sub (ns_i64 (a := 32) (b := n) (by first | omega | (simp; done) | (simp; omega) | (simp [*]; done) | (simp [*]; omega)) (by first | omega | (simp; done) | (simp; omega) | (simp [*]; done) | (simp [*]; omega))) rfl rfl rfl) rfl rfl ?_)
  refine L_op rfl (op_pr (pr_cv (ni_u64 (a := 32 - n) (by first | omega | (simp; done) | (simp; omega) | (simp [*]; done) | (simp [*]; omega))) Try.underlying3 Try.underlying37 rfl rfl) rfl rfl ?_)
  refine L_op rfl (op_pr (pr_shift (sh_shl32 x _ (32 - n)) rfl rfl rfl rfl) rfl rfl ?_)
  refine L_op rfl (op_pr (pr_or (ib_or32 _ _) rfl rfl rfl) rfl rfl ?_)
  refine L_op rfl (op_pr (pr_assign rfl rfl) rfl rfl ?_)
  refine L_nil ?_
  refine T_re [(4, (b32 ((x >>> n) ||| (x <<< (32 - n)))))] (sc rfl sn) ?_
  refine T_he [] [] ⟨by decide, rfl⟩ ?_
  refine T_ret ?_
  refine T_slot 4 (b32 ((x >>> n) ||| (x <<< (32 - n)))) (b32 (ror32 x n)) rfl (by rfl) ?_
  exact T_fin () (by first | trivial | omega | (simp; done)) (res1 rfl rfl) [] ⟨by decide, rfl⟩ rfl
set_option maxHeartbeats 4000000 in
theorem pad_f (n : Nat) (w : World) (hO : HOK [] w) (hn : n ≤ 1100000000000) : Calls Try.prog 20 [(.int .i64 ((n : Nat) : Int))].toArray w (Ret (T := Option Addr × Nat) [] w (fun ⟨B, d⟩ => True) (fun ⟨B, d⟩ => (.slice B (plen n) d)) (fun ⟨B, d⟩ => [.row (.slice B (plen n) d) 5 1 (plen n) ((padb n).map b8)])) := by
  have hF : Wid Fence.wide := wid_wide
  refine enter (c := _) Try.func20 rfl [] [(.int .i64 ((n : Nat) : Int))] [] (by rw [Try.ntmps20]; rfl) (own_rds hO rfl) ?_
  rw [Try.ntmps20]
  refine T_re [(0, (.int .i64 ((n : Nat) : Int)))] (sc rfl sn) ?_
  refine T_he [] [] ⟨by decide, rfl⟩ ?_
  refine T_seq ?_
  refine T_reg hF rfl ?_
  refine L_op rfl (op_pr (pr_assign rfl rfl) rfl rfl ?_)
  refine L_nil ?_
  refine T_re [(0, (.int .i64 ((n : Nat) : Int)))] (sc rfl sn) ?_
  refine T_he [] [] ⟨by decide, rfl⟩ ?_
  refine T_seq ?_
  refine T_reg hF rfl ?_
  refine L_op rfl (op_pr (pr_move rfl rfl) rfl rfl ?_)
  refine L_op rfl (op_pr ((pr_as (pr_max rfl rfl rfl) (nmax (k := .i64) (a := n) (b := 0)))) rfl rfl ?_)
  refine L_op rfl (op_pr (pr_assign rfl rfl) rfl rfl ?_)
  refine L_nil ?_
  refine T_re [(0, (.int .i64 ((max n 0 : Nat) : Int)))] (sc rfl sn) ?_
  refine T_he [] [] ⟨by decide, rfl⟩ ?_
  refine T_seq ?_
  refine T_reg hF rfl ?_
  refine L_op rfl (op_bslice (e := 5) (zs := [(b8 (128#8))]) (qs := [(0, (b8 (128#8)))]) (fun _ => by kernel_rfl) rfl rfl rfl rfl (fun g1 => ?_))
  refine L_op rfl (op_pr (pr_move rfl rfl) rfl rfl ?_)
  refine L_op rfl (op_pr (pr_rem (a := max n 0) (b := 64) (by first | omega | (simp; done) | (simp; omega) | (simp [*]; done) | (simp [*]; omega)) rfl rfl rfl) rfl rfl ?_)
  refine L_op rfl (op_pr (pr_sub (ns_i64 (a := 119) (b := (max n 0) % 64) (by first | omega | (simp; done) | (simp; omega) | (simp [*]; done) | (simp [*]; omega)) (by first | omega | (simp; done) | (simp; omega) | (simp [*]; done) | (simp [*]; omega))) rfl rfl rfl) rfl rfl ?_)
  refine L_op rfl (op_pr (pr_rem (a := 119 - ((max n 0) % 64)) (b := 64) (by first | omega | (simp; done) | (simp; omega) | (simp [*]; done) | (simp [*]; omega)) rfl rfl rfl) rfl rfl ?_)
  refine T_rowb 0 (zs := [(b8 (128#8))]) 1 1 1 rfl (by first | omega | (simp; done) | (simp; omega) | (simp [*]; done) | (simp [*]; omega)) (by first | omega | (simp; done) | (simp; omega) | (simp [*]; done) | (simp [*]; omega)) rfl rfl ?_
  refine L_op rfl (op_append0 (z := (b8 (0#8))) (bytes := 1) (m := (119 - ((max n 0) % 64)) % 64) 0 rfl Try.underlying24 Try.underlying3 (by kernel_rfl) rfl rfl (by first | omega | (simp; done) | (simp; omega) | (simp [*]; done) | (simp [*]; omega)) (by first | omega | (simp; done) | (simp; omega) | (simp [*]; done) | (simp [*]; omega)) rfl rfl rfl rfl rfl (fun A2 C3 => ?_))
  refine T_as 0 (.row (.slice A2 (1 + ((119 - ((max n 0) % 64)) % 64)) C3) 5 1 (1 + ((119 - ((max n 0) % 64)) % 64)) ([(b8 (128#8))] ++ List.replicate ((119 - ((max n 0) % 64)) % 64) (b8 (0#8)))) (.row (.slice A2 (1 + ((119 - ((max n 0) % 64)) % 64)) C3) 5 1 (1 + ((119 - ((max n 0) % 64)) % 64)) (([128#8] ++ (List.replicate ((119 - ((max n 0) % 64)) % 64) 0#8)).map b8)) rfl (by first | rfl | (congr 1; simp)) ?_
  refine L_op rfl (op_pr (pr_assign rfl rfl) rfl rfl ?_)
  refine L_nil ?_
  refine T_re [(0, (.int .i64 ((max n 0 : Nat) : Int))), (3, (.slice A2 (1 + ((119 - ((max n 0) % 64)) % 64)) C3))] (sc rfl (sc rfl sn)) ?_
  refine T_he [0] [.row (.slice A2 (1 + ((119 - ((max n 0) % 64)) % 64)) C3) 5 1 (1 + ((119 - ((max n 0) % 64)) % 64)) (([128#8] ++ (List.replicate ((119 - ((max n 0) % 64)) % 64) 0#8)).map b8)] ⟨by decide, rfl⟩ ?_
  refine T_seq ?_
  refine T_reg hF rfl ?_
  refine L_op rfl (op_pr (pr_move rfl rfl) rfl rfl ?_)
  refine L_op rfl (op_pr (pr_move rfl rfl) rfl rfl ?_)
  refine L_op rfl (op_pr (pr_cv (nw64 (max n 0)) Try.underlying3 Try.underlying62 rfl rfl) rfl rfl ?_)
  refine L_op rfl (op_pr (pr_mul (mul64 _ (8#64)) rfl rfl rfl) rfl rfl ?_)
  refine L_op rfl (op_call1 (vs := [(.slice A2 (1 + ((119 - ((max n 0) % 64)) % 64)) C3), (b64 ((BitVec.ofNat 64 (max n 0)) * 8#64)), (.int .i64 ((8 : Nat) : Int))]) (cap := []) 0 rfl (fun w hw => putHigh_f ([128#8] ++ (List.replicate ((119 - ((max n 0) % 64)) % 64) 0#8)) ((BitVec.ofNat 64 (max n 0)) * 8#64) 8 A2 (1 + ((119 - ((max n 0) % 64)) % 64)) C3 w (hw _ (List.mem_of_getElem? (i := 0) rfl)) (by first | omega | (simp; done) | (simp; omega) | (simp [*]; done) | (simp [*]; omega)) (by first | omega | (simp; done) | (simp; omega) | (simp [*]; done) | (simp [*]; omega))) (enters_of Try.func39 (by kernel_rfl) rfl) rfl rfl rfl rfl rfl (fun t4 q5 => ?_))
  obtain ⟨B6, d7⟩ := t4
  refine L_op rfl (op_pr (pr_assign rfl rfl) rfl rfl ?_)
  refine L_nil ?_
  refine T_re [(2, (.slice B6 ((1 + ((119 - ((max n 0) % 64)) % 64)) + 8) d7))] (sc rfl sn) ?_
  refine T_he [0] [.row (.slice B6 ((1 + ((119 - ((max n 0) % 64)) % 64)) + 8) d7) 5 1 ((1 + ((119 - ((max n 0) % 64)) % 64)) + 8) ((([128#8] ++ (List.replicate ((119 - ((max n 0) % 64)) % 64) 0#8)) ++ highb ((BitVec.ofNat 64 (max n 0)) * 8#64) 8 8).map b8)] ⟨by decide, rfl⟩ ?_
  refine T_ret ?_
  refine T_slot 2 (.slice B6 ((1 + ((119 - ((max n 0) % 64)) % 64)) + 8) d7) (.slice B6 (plen n) d7) rfl (by simp [plen]) ?_
  refine T_as 0 (.row (.slice B6 ((1 + ((119 - ((max n 0) % 64)) % 64)) + 8) d7) 5 1 ((1 + ((119 - ((max n 0) % 64)) % 64)) + 8) ((([128#8] ++ (List.replicate ((119 - ((max n 0) % 64)) % 64) 0#8)) ++ highb ((BitVec.ofNat 64 (max n 0)) * 8#64) 8 8).map b8)) (.row (.slice B6 (plen n) d7) 5 1 (plen n) ((padb n).map b8)) rfl (by simp [padb, plen]) ?_
  exact T_fin (B6, d7) (by first | trivial | omega | (simp; done)) (res1 rfl rfl) [0] ⟨by decide, rfl⟩ rfl
end Go.Proofs.Ytmhkmamenfmolaa
