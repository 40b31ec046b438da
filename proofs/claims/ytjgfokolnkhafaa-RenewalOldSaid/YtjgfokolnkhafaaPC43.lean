/- What the laws of this part rest on: lemmas, and the walks of the functions. No conditions. -/
import Derived.WalkKit
import Derived.WalkSpells
import Derived.WalkLawsBesides
import Derived.RangeFuncLeaves
import Derived.Maps.AppendAt
import Derived.Deep.AppendLies
import Derived.Deep.Slices
import Derived.OpenShut
import Derived.ProofKit
import Derived.Below
import Derived.ChangeSame
import Derived.Carry
import Derived.RangeFuncRecord
import Derived.Laws.Tables
import Derived.Recover
import Derived.DefersIn
import Derived.Lib.AppendZerosOnto
import Derived.Lib.Overlaps
import Derived.Laws.CopyRow
import Derived.Laws.StructEq
import Derived.ChangeKeysEq
import Derived.OrdersIn
import Derived.Test.YtjgfokolnkhafaaRows
import Derived.Test.YtjgfokolnkhafaaPC42
set_option linter.unusedSimpArgs false
set_option linter.unusedVariables false
namespace Go.Proofs.Ytjgfokolnkhafaa
open Go.Fw Go.RowKit
set_option maxHeartbeats 4000000 in
set_option maxRecDepth 100000 in
theorem c_new {O:List Nat} (l_v:Value) (l:List Int) (threshold:Int) (wait:Int) (w:World) (h_l:BG Enc.int w O l_v l) (hpre0:l.length≤1000000) (hO:∀ b∈O,b<w.heap.size):CF Try.prog 10 [l_v,vI threshold,vI wait] w (fun v w'=>∃ (x0:List Value),v = .tuple #[.agg x0.toArray,vI ((KQ l threshold wait).2)]∧Enc.circle.rd w' (O) x0 ((KQ l threshold wait).1)):= by
 have lim_l:=h_l.len_le
 have h_l:BG Enc.int w ([]++O) l_v l:=h_l
 have s0:St w O w []:=St.start hO
 refine BQ 21 Try.func10 rfl rfl oT (fun F0=>?_)
 refine AG (?_)
 refine AB kR (AA (CX [vI 0,vI 0,vI 0,nS,nS] II rfl s0 fun b2980 w2981 e2986 s2982 m2983 k2984 bx2985=>(?_)))
 clear e2986
 have h_l:=h_l.mv m2983
 refine AA (AD (vI 0) rfl (AF (AC (?_))))
 refine AG (?_)
 refine AB kR (AA (AE (vI threshold) rfl (AA (AE (vI wait) rfl (AA (AE (l_v) rfl (AA (KB [l_v] _ SS rfl (CH 8 Try.func32 rfl rfl oT (fun F2987=>?_)) (fun _ _ h=>h)))))))))
 refine AG (?_)
 refine AB kR (AA (AD (nS) rfl (AF (AC (?_)))))
 refine AG (?_)
 refine AG (?_)
 refine AB kR (AA (AE (l_v) rfl (AA (IO U22_ rfl rfl h_l fun bn2988 hbn2989=>(?_)))))
 refine AF (AC (?_))
 refine AO (bn2988) rfl rfl (fun hc2990=>?_) (fun hc2990=>?_)
 ·have hp2991:bn2988=true:=by simpa using hc2990
  refine AG (?_)
  refine AB kR (AA (AD (nS) rfl (AF (AC (?_)))))
  refine AP (AR (AZ rfl (CS rfl rfl rfl) (?_)))
  have hnl2993:l=[]:=hbn2989 aS
  have hl2992:BG Enc.int w2981 ((b2980 :: [])++O) (.slice none 0 0) (l):=by rw [hnl2993];exact BG.nil _ _ _
  refine Exists.intro _ (And.intro rfl (?_))
  refine AA (EE (l:=[(1, .tmp 9),(2, .tmp 10),(3, .tmp 12)]) RS II rfl [(1,vI threshold,[vI threshold]),(2,vI wait,[vI wait]),(3, .slice none 0 0,[.slice none 0 0])] [vI 0,vI threshold,vI wait, .slice none 0 0,nS] rfl ⟨_,rfl,rfl,oT,⟨_,rfl,rfl,oT,⟨_,rfl,(FD hl2992.oneCell),oT,rfl⟩⟩⟩ (BY (BC (vs:=[vI 0,vI threshold,vI wait, .slice none 0 0,nS]) (.agg #[vI 0,vI threshold,vI wait, .slice none 0 0,nS]) rfl rfl rfl BL (fun u hu=>by simp only [List.mem_cons,List.not_mem_nil,or_false] at hu;rcases hu with rfl|rfl|rfl|rfl|rfl <;> rfl) (by repeat (constructor)) bx2985 oT s2982 fun w2994 s2995 m2996 k2997 bx2998=>(?_))))
  have hl2992:=hl2992.mv m2996
  refine AF (AC (?_))
  refine AG (?_)
  refine AG (?_)
  refine AB kR (AA (BN (vs:=[vI 0,vI threshold,vI wait, .slice none 0 0,nS]) U28_ rfl BL rfl bx2998 rfl (AA (BB (vs:=[vA #[vI 0,vI threshold,vI wait, .slice none 0 0,nS]]) LU (OC (O:=(b2980 :: [])++O) [vI 0,vI threshold,vI wait, .slice none 0 0,nS] (⟨(0:Int),threshold,wait,l,[]⟩:Circle) w2994 ⟨_, .slice none 0 0,rfl,hl2992,(BG.nil _ _ _)⟩ s2995.lt) rfl s2995 fun v2999 w3000 s3001 m3002 k3003 r3004=>(?_)))))
  obtain rfl:=r3004
  have hl2992:=hl2992.mv m3002
  have bx2998:=bx2998.keep k3003 (by simp)
  refine AA (AD (vI (AS (⟨(0:Int),threshold,wait,l,[]⟩:Circle))) rfl (AF (AC (?_))))
  refine AG (?_)
  refine AB kR (AA (AE (vI (AS (⟨(0:Int),threshold,wait,l,[]⟩:Circle))) rfl (AA (CV .i64 (AS (⟨(0:Int),threshold,wait,l,[]⟩:Circle)) (0:Int) rfl rfl (AF (AC (?_)))))))
  refine AO ((AS (⟨(0:Int),threshold,wait,l,[]⟩:Circle)) != (0:Int)) rfl rfl (fun hc3005=>?_) (fun hc3005=>?_)
  ·have hp3006:AS (⟨(0:Int),threshold,wait,l,[]⟩:Circle)≠(0:Int):=by simpa using hc3005
   refine AG (?_)
   refine AB kR (AA (EE (l:=[]) RS II rfl [] [vI 0,vI 0,vI 0,nS,nS] rfl rfl (AA (AE (vI (AS (⟨(0:Int),threshold,wait,l,[]⟩:Circle))) rfl (BY (BC (vs:=[vI 0,vI 0,vI 0,nS,nS]) (.agg #[vI 0,vI 0,vI 0,nS,nS]) rfl rfl rfl BL (fun u hu=>by simp only [List.mem_cons,List.not_mem_nil,or_false] at hu;rcases hu with rfl|rfl|rfl|rfl|rfl <;> rfl) (by repeat (constructor)) bx2998 oT s3001 fun w3007 s3008 m3009 k3010 bx3011=>(?_)))))))
   refine AA (AD (vI (AS (⟨(0:Int),threshold,wait,l,[]⟩:Circle))) rfl (AF (AC (?_))))
   refine AP (AR (AZ rfl (EH rfl (DY (vs:=[vI 0,vI 0,vI 0,nS,nS]) rfl U28_ rfl BL rfl bx3011 rfl) (DN rfl rfl)) (?_)))
   have e3012:((KQ l threshold wait).1)=(⟨(0:Int),(0:Int),(0:Int),[],[]⟩:Circle):=by exact congrArg (fun p=>p.1) (QD aS)
   have e3013:((KQ l threshold wait).2)=(AS (⟨(0:Int),threshold,wait,l,[]⟩:Circle)):=by exact congrArg (fun p=>p.2) (QD aS)
   exact ⟨_,rfl,s3008.keep,by rw [e3012,e3013];exact ⟨[vI 0,vI 0,vI 0,nS,nS],rfl,Enc.out (B:=(b2980 :: [])) ⟨.slice none 0 0, .slice none 0 0,rfl,(BG.nil _ _ _),(BG.nil _ _ _)⟩⟩⟩
  ·have hp3014:AS (⟨(0:Int),threshold,wait,l,[]⟩:Circle)=(0:Int):=by simpa using hc3005
   refine AU (AC (?_))
   refine AG (?_)
   refine AB kR (AA (BN (vs:=[vI 0,vI threshold,vI wait, .slice none 0 0,nS]) U28_ rfl BL rfl bx2998 rfl (BY (BC (vs:=[vI 0,vI threshold,vI wait, .slice none 0 0,nS]) (.agg #[vI 0,vI threshold,vI wait, .slice none 0 0,nS]) rfl rfl rfl BL (fun u hu=>by simp only [List.mem_cons,List.not_mem_nil,or_false] at hu;rcases hu with rfl|rfl|rfl|rfl|rfl <;> rfl) (by repeat (constructor)) bx2998 oT s3001 fun w3015 s3016 m3017 k3018 bx3019=>(?_)))))
   have hl2992:=hl2992.mv m3017
   refine AA (AD (vI 0) rfl (AF (AC (?_))))
   refine AP (AZ rfl (EH rfl (DY (vs:=[vI 0,vI threshold,vI wait, .slice none 0 0,nS]) rfl U28_ rfl BL rfl bx3019 rfl) (DN rfl rfl)) (?_))
   have e3020:((KQ l threshold wait).1)=(⟨(0:Int),threshold,wait,l,[]⟩:Circle):=by exact congrArg (fun p=>p.1) (SL aS)
   have e3021:((KQ l threshold wait).2)=(0:Int):=by exact congrArg (fun p=>p.2) (SL aS)
   exact ⟨_,rfl,s3016.keep,by rw [e3020,e3021];exact ⟨[vI 0,vI threshold,vI wait, .slice none 0 0,nS],rfl,Enc.out (B:=(b2980 :: [])) ⟨_, .slice none 0 0,rfl,hl2992,(BG.nil _ _ _)⟩⟩⟩
 ·have hp3022:bn2988=false:=by simpa using hc2990
  refine AU (AC (?_))
  refine AG (?_)
  refine AB kR (AA (HP (E:=Enc.int) (xs:=[]) U22_ MW z_3 (by decide) [] [] [] rfl rfl rfl (Parts.nil _ _ _) oT s2982 fun v3027 b3029 w3023 e3030 hb3031 s3024 m3025 k3026 hl3028=>(?_)))
  have ne3032:∀ b,v3027.ownBlock=some b→b≠b2980:=fun b hb=>by have:=bx2985.lt;rw [hb3031] at hb;cases hb;omega
  have hB3033:∀ b,v3027.ownBlock=some b→b∈(b3029 :: (b2980 :: [])):=fun b hb=>by rw [hb3031] at hb;cases hb;simp
  clear e3030 hb3031
  have h_l:=h_l.mv m3025
  have bx2985:=bx2985.keep k3026 (by simp)
  refine AA (AE (l_v) rfl (AA (DG (E:=Enc.int) (l:=[]) (m:=l) U22_ i_3 rfl (by decide) rfl rfl hl3028 h_l (fun _ hb=>.inl hb) hB3033 (by simp;omega) (by simp [maxLen];omega) s3024 fun v3038 w3034 B3040 hB3041 at3042 sub3043 s3035 m3036 k3037 ho3039=>(?_))))
  rw [List.nil_append] at ho3039
  have ne3044:∀ b,v3038.ownBlock=some b→b≠b2980:=fun b hb=>by rcases at3042 with e1|e1 <;> rw [e1] at hb <;> first|(cases hb;have:=bx2985.lt;omega)|(exact ne3032 b hb)
  have hin_b2980:b2980∈B3040:=sub3043 b2980 (by repeat (constructor))
  have bx2985:=bx2985.keep k3037 (by simp only [Option.mem_toList];exact fun e=>absurd rfl (ne3032 _ e))
  refine AA (AD (v3038) rfl (AF (AC (?_))))
  refine AP (AZ rfl (CS rfl rfl rfl) (Exists.intro _ (And.intro rfl (?_))))
  obtain ⟨B3045,s3046,m3047,hl3048,hk3049⟩:=ho3039.publish s3035
  have hin_b2980:b2980∈B3045:=hk3049 b2980 (by repeat (assumption)) (fun e=>absurd rfl (ne3044 _ e))
  have lim3050:=hl3048.len_le
  have bx2985:=bx2985.keep (Keep.refl [] _) (by simp)
  refine AA (EE (l:=[(1, .tmp 9),(2, .tmp 10),(3, .tmp 12)]) RS II rfl [(1,vI threshold,[vI threshold]),(2,vI wait,[vI wait]),(3,v3038,[v3038])] [vI 0,vI threshold,vI wait,v3038,nS] rfl ⟨_,rfl,rfl,oT,⟨_,rfl,rfl,oT,⟨_,rfl,(FD hl3048.oneCell),oT,rfl⟩⟩⟩ (BY (BC (vs:=[vI 0,vI threshold,vI wait,v3038,nS]) (.agg #[vI 0,vI threshold,vI wait,v3038,nS]) rfl rfl rfl BL (fun u hu=>by simp only [List.mem_cons,List.not_mem_nil,or_false] at hu;rcases hu with rfl|rfl|rfl|rfl|rfl <;> first|rfl|exact hl3048.oneCell) (by repeat (assumption)) bx2985 oT s3046 fun w3051 s3052 m3053 k3054 bx3055=>(?_))))
  have hl3048:=hl3048.mv m3053
  refine AF (AC (?_))
  refine AG (?_)
  refine AG (?_)
  refine AB kR (AA (BN (vs:=[vI 0,vI threshold,vI wait,v3038,nS]) U28_ rfl BL rfl bx3055 rfl (AA (BB (vs:=[vA #[vI 0,vI threshold,vI wait,v3038,nS]]) LU (OC (O:=B3045++O) [vI 0,vI threshold,vI wait,v3038,nS] (⟨(0:Int),threshold,wait,l,[]⟩:Circle) w3051 ⟨_, .slice none 0 0,rfl,hl3048,(BG.nil _ _ _)⟩ s3052.lt) rfl s3052 fun v3056 w3057 s3058 m3059 k3060 r3061=>(?_)))))
  obtain rfl:=r3061
  have hl3048:=hl3048.mv m3059
  have bx3055:=bx3055.keep k3060 (by simp)
  refine AA (AD (vI (AS (⟨(0:Int),threshold,wait,l,[]⟩:Circle))) rfl (AF (AC (?_))))
  refine AG (?_)
  refine AB kR (AA (AE (vI (AS (⟨(0:Int),threshold,wait,l,[]⟩:Circle))) rfl (AA (CV .i64 (AS (⟨(0:Int),threshold,wait,l,[]⟩:Circle)) (0:Int) rfl rfl (AF (AC (?_)))))))
  refine AO ((AS (⟨(0:Int),threshold,wait,l,[]⟩:Circle)) != (0:Int)) rfl rfl (fun hc3062=>?_) (fun hc3062=>?_)
  ·have hp3063:AS (⟨(0:Int),threshold,wait,l,[]⟩:Circle)≠(0:Int):=by simpa using hc3062
   refine AG (?_)
   refine AB kR (AA (EE (l:=[]) RS II rfl [] [vI 0,vI 0,vI 0,nS,nS] rfl rfl (AA (AE (vI (AS (⟨(0:Int),threshold,wait,l,[]⟩:Circle))) rfl (BY (BC (vs:=[vI 0,vI 0,vI 0,nS,nS]) (.agg #[vI 0,vI 0,vI 0,nS,nS]) rfl rfl rfl BL (fun u hu=>by simp only [List.mem_cons,List.not_mem_nil,or_false] at hu;rcases hu with rfl|rfl|rfl|rfl|rfl <;> rfl) (by repeat (assumption)) bx3055 oT s3058 fun w3064 s3065 m3066 k3067 bx3068=>(?_)))))))
   refine AA (AD (vI (AS (⟨(0:Int),threshold,wait,l,[]⟩:Circle))) rfl (AF (AC (?_))))
   refine AP (AR (AZ rfl (EH rfl (DY (vs:=[vI 0,vI 0,vI 0,nS,nS]) rfl U28_ rfl BL rfl bx3068 rfl) (DN rfl rfl)) (?_)))
   have e3069:((KQ l threshold wait).1)=(⟨(0:Int),(0:Int),(0:Int),[],[]⟩:Circle):=by exact congrArg (fun p=>p.1) (QD aS)
   have e3070:((KQ l threshold wait).2)=(AS (⟨(0:Int),threshold,wait,l,[]⟩:Circle)):=by exact congrArg (fun p=>p.2) (QD aS)
   exact ⟨_,rfl,s3065.keep,by rw [e3069,e3070];exact ⟨[vI 0,vI 0,vI 0,nS,nS],rfl,Enc.out (B:=B3045) ⟨.slice none 0 0, .slice none 0 0,rfl,(BG.nil _ _ _),(BG.nil _ _ _)⟩⟩⟩
  ·have hp3071:AS (⟨(0:Int),threshold,wait,l,[]⟩:Circle)=(0:Int):=by simpa using hc3062
   refine AU (AC (?_))
   refine AG (?_)
   refine AB kR (AA (BN (vs:=[vI 0,vI threshold,vI wait,v3038,nS]) U28_ rfl BL rfl bx3055 rfl (BY (BC (vs:=[vI 0,vI threshold,vI wait,v3038,nS]) (.agg #[vI 0,vI threshold,vI wait,v3038,nS]) rfl rfl rfl BL (fun u hu=>by simp only [List.mem_cons,List.not_mem_nil,or_false] at hu;rcases hu with rfl|rfl|rfl|rfl|rfl <;> first|rfl|exact hl3048.oneCell) (by repeat (assumption)) bx3055 oT s3058 fun w3072 s3073 m3074 k3075 bx3076=>(?_)))))
   have hl3048:=hl3048.mv m3074
   refine AA (AD (vI 0) rfl (AF (AC (?_))))
   refine AP (AZ rfl (EH rfl (DY (vs:=[vI 0,vI threshold,vI wait,v3038,nS]) rfl U28_ rfl BL rfl bx3076 rfl) (DN rfl rfl)) (?_))
   have e3077:((KQ l threshold wait).1)=(⟨(0:Int),threshold,wait,l,[]⟩:Circle):=by exact congrArg (fun p=>p.1) (SL aS)
   have e3078:((KQ l threshold wait).2)=(0:Int):=by exact congrArg (fun p=>p.2) (SL aS)
   exact ⟨_,rfl,s3073.keep,by rw [e3077,e3078];exact ⟨[vI 0,vI threshold,vI wait,v3038,nS],rfl,Enc.out (B:=B3045) ⟨_, .slice none 0 0,rfl,hl3048,(BG.nil _ _ _)⟩⟩⟩
set_option maxHeartbeats 4000000 in
set_option maxRecDepth 100000 in
theorem c_ask {O:List Nat} (c_cs:List Value) (c:Circle) (day:Int) (w:World) (h_c:Enc.circle.rd w O c_cs c) (hO:∀ b∈O,b<w.heap.size):CF Try.prog 34 [.agg c_cs.toArray,vI day] w (fun v w'=>∃ (x0:List Value),v = .tuple #[.agg x0.toArray,vI ((AV c day).2.1),vI ((AV c day).2.2)]∧Enc.circle.rd w' (O) x0 ((AV c day).1)):= by
 have h_c:Enc.circle.rd w ([]++O) c_cs c:=h_c
 have s0:St w O w []:=St.start hO
 refine BQ 55 Try.func34 rfl rfl oT (fun F0=>?_)
 refine AG (?_)
 refine AB kR (AA (DO (E:=Enc.circle) (vA c_cs.toArray) (c_cs) c rfl rfl h_c s0 fun a3079 w3080 s3081 m3082 k3083 hp3084=>(?_)))
 refine AA (CX [vI 0,vI 0,vI 0,nS,nS] II rfl s3081 fun b3085 w3086 e3091 s3087 m3088 k3089 bx3090=>(?_))
 clear e3091
 have hp3084:=hp3084.mv m3088
 refine AA (AD (vI 0) rfl (AA (AD (vI 0) rfl (AF (AC (?_))))))
 refine AG (?_)
 refine AG (?_)
 refine AB kR (AA (CR U28_ rfl BL rfl hp3084 fun cs3092 hs3093=>(AA (BB (vs:=[vA cs3092.toArray]) LU (OC (O:=(b3085 :: [])++O) cs3092 c w3086 hs3093 s3087.lt) rfl s3087 fun v3094 w3095 s3096 m3097 k3098 r3099=>(?_)))))
 obtain rfl:=r3099
 have hp3084:=hp3084.mv m3097
 have bx3090:=bx3090.keep k3098 (by simp)
 refine AA (AD (vI (AS c)) rfl (AF (AC (?_))))
 refine AG (?_)
 refine AB kR (AA (AE (vI (AS c)) rfl (AA (CV .i64 (AS c) (0:Int) rfl rfl (AF (AC (?_)))))))
 refine AO ((AS c) != (0:Int)) rfl rfl (fun hc3100=>?_) (fun hc3100=>?_)
 ·have hp3101:AS c≠(0:Int):=by simpa using hc3100
  refine AG (?_)
  refine AB kR (AA (BN (vs:=[vI 0,vI 0,vI 0,nS,nS]) U28_ rfl BL rfl bx3090 rfl (AA (AE (vI (AS c)) rfl (BY (BC (vs:=[vI 0,vI 0,vI 0,nS,nS]) (.agg #[vI 0,vI 0,vI 0,nS,nS]) rfl rfl rfl BL (fun u hu=>by simp only [List.mem_cons,List.not_mem_nil,or_false] at hu;rcases hu with rfl|rfl|rfl|rfl|rfl <;> rfl) (by repeat (constructor)) bx3090 oT s3096 fun w3102 s3103 m3104 k3105 bx3106=>(?_)))))))
  refine AA (AD (vI 0) rfl (AA (AD (vI (AS c)) rfl (AF (AC (?_))))))
  refine AP (AR (AZ rfl (FV rfl (DY (vs:=[vI 0,vI 0,vI 0,nS,nS]) rfl U28_ rfl BL rfl bx3106 rfl) (DN rfl rfl) (DN rfl rfl)) (?_)))
  have e3107:((AV c day).1)=(⟨(0:Int),(0:Int),(0:Int),[],[]⟩:Circle):=by exact congrArg (fun p=>p.1) (QK aS)
  have e3108:((AV c day).2.1)=(0:Int):=by exact congrArg (fun p=>p.2.1) (QK aS)
  have e3109:((AV c day).2.2)=(AS c):=by exact congrArg (fun p=>p.2.2) (QK aS)
  exact ⟨_,rfl,s3103.keep,by rw [e3107,e3108,e3109];exact ⟨[vI 0,vI 0,vI 0,nS,nS],rfl,Enc.out (B:=(b3085 :: [])) ⟨.slice none 0 0, .slice none 0 0,rfl,(BG.nil _ _ _),(BG.nil _ _ _)⟩⟩⟩
 ·have hp3110:AS c=(0:Int):=by simpa using hc3100
  have hrl:=SH hp3110
  refine AU (AC (?_))
  refine AG (?_)
  refine AB kR (AA (BM 4 DK (c.recs) rfl hp3084 (fun _ _ _ h=>CJ h) fun a3111 hp3112=>(AA (BW U26_ rfl rfl hp3112 fun v3113 hl3114=>(?_)))))
  have:=hl3114.len_le
  refine AA (CG U26_ rfl hl3114 (AA (AD (vI (c.recs.length:Int)) rfl (AF (AC (?_))))))
  refine AG (?_)
  refine AB kR (AA (EE (l:=[(2, .const (vI 1))]) pl_68 NS rfl [(2,vI 1,[vI 1])] [vI 0,vI 0,vI 1,nS,nS] rfl ⟨_,rfl,rfl,oT,rfl⟩ (AA (CX [vI 0,vI 0,vI 0,nS,nS] NS rfl s3096 fun b3115 w3116 e3121 s3117 m3118 k3119 bx3120=>(?_)))))
  have ne3122:FH b3085 b3115:=by show b3085≠b3115;have:=bx3090.lt;omega
  clear e3121
  have hp3084:=hp3084.mv m3118
  have bx3090:=bx3090.keep k3119 (by simp)
  refine BY (BC (vs:=[vI 0,vI 0,vI 1,nS,nS]) (.agg #[vI 0,vI 0,vI 1,nS,nS]) rfl rfl rfl GA (fun u hu=>by simp only [List.mem_cons,List.not_mem_nil,or_false] at hu;rcases hu with rfl|rfl|rfl|rfl|rfl <;> rfl) (by repeat (constructor)) bx3120 oT s3117 fun w3123 s3124 m3125 k3126 bx3127=>(?_))
  have hp3084:=hp3084.mv m3125
  have bx3090:=bx3090.keep k3126 (BH ne3122)
  refine AF (AC (?_))
  refine AG (?_)
  refine AG (?_)
  refine AB kR (AA (AE (vI (c.recs.length:Int)) rfl (AA (FW .i64 (c.recs.length:Int) (0:Int) rfl rfl (AF (AC (?_)))))))
  refine AO (decide ((0:Int)<(c.recs.length:Int))) rfl rfl (fun hc3128=>?_) (fun hc3128=>?_)
  ·have hp3129:(0:Int)<(c.recs.length:Int):=by simpa using hc3128
   have hlr:IL c=c.recs[c.recs.length - 1]!:=if_pos oM
   refine AB kR (AA (BM 4 DK (c.recs) rfl hp3084 (fun _ _ _ h=>CJ h) fun a3130 hp3131=>(AA (BW U26_ rfl rfl hp3131 fun v3132 hl3133=>(?_)))))
   have:=hl3133.len_le
   refine AA (AE (vI (c.recs.length:Int)) rfl (AA (HW .i64 (c.recs.length:Int) (1:Int) (((c.recs.length - 1:Nat):Int)) rfl rfl (FO oM oM) (AA (DI U26_ GA .i64 ((c.recs.length - 1:Nat):Int) (c.recs.length - 1) rfl rfl rfl hl3133 oM fun a3134 hp3135=>(AA (CR U68_ rfl GA rfl hp3135 fun cs3136 hs3137=>(?_))))))))
   obtain ⟨d3143,d3145,rfl,hd3144,hd3146⟩:=hs3137
   have:=hd3144.len_le
   have:=hd3146.len_le
   refine BY (BC (vs:=[vI ((c.recs[c.recs.length - 1]!).no),vI ((c.recs[c.recs.length - 1]!).asked),vI ((c.recs[c.recs.length - 1]!).state),d3143,d3145]) (.agg #[vI ((c.recs[c.recs.length - 1]!).no),vI ((c.recs[c.recs.length - 1]!).asked),vI ((c.recs[c.recs.length - 1]!).state),d3143,d3145]) rfl rfl rfl GA (fun u hu=>by simp only [List.mem_cons,List.not_mem_nil,or_false] at hu;rcases hu with rfl|rfl|rfl|rfl|rfl <;> first|rfl|exact hd3144.oneCell|exact hd3146.oneCell) (by repeat (constructor)) bx3127 oT s3124 fun w3138 s3139 m3140 k3141 bx3142=>(?_))
   have hp3084:=hp3084.mv m3140
   have bx3090:=bx3090.keep k3141 (BH ne3122)
   refine AF (AC (?_))
   refine AG (?_)
   refine BR (?_)
   refine AG (?_)
   refine AB kR (AA (AE (vI day) rfl (AA (BD 1 NC rfl (AA (BI U3_ rfl (vI ((c.recs[c.recs.length - 1]!).asked)) rfl bx3142 rfl (AA (BB (vs:=[vI day,vI ((c.recs[c.recs.length - 1]!).asked)]) LS (OL (O:=(b3115 :: (b3085 :: []))++O) day ((c.recs[c.recs.length - 1]!).asked) w3138 s3139.lt) rfl s3139 fun v3147 w3148 s3149 m3150 k3151 r3152=>(?_)))))))))
   obtain rfl:=r3152
   have hp3084:=hp3084.mv m3150
   have bx3090:=bx3090.keep k3151 (by simp)
   have bx3142:=bx3142.keep k3151 (by simp)
   refine AA (HC (CT day ((c.recs[c.recs.length - 1]!).asked)) rfl (AA (AD (vO (!(CT day ((c.recs[c.recs.length - 1]!).asked)))) rfl (AF (AC (?_))))))
   refine AO (!(CT day ((c.recs[c.recs.length - 1]!).asked))) rfl rfl (fun hc3153=>?_) (fun hc3153=>?_)
   ·have hp3154:(CT day ((c.recs[c.recs.length - 1]!).asked))=false:=by simpa using hc3153
    refine AG (?_)
    refine AB kR (AA (BN (vs:=[vI 0,vI 0,vI 0,nS,nS]) U28_ rfl BL rfl bx3090 rfl (BY (BC (vs:=[vI 0,vI 0,vI 0,nS,nS]) (.agg #[vI 0,vI 0,vI 0,nS,nS]) rfl rfl rfl BL (fun u hu=>by simp only [List.mem_cons,List.not_mem_nil,or_false] at hu;rcases hu with rfl|rfl|rfl|rfl|rfl <;> rfl) (by repeat (constructor)) bx3090 oT s3149 fun w3155 s3156 m3157 k3158 bx3159=>(?_)))))
    refine AA (AD (vI 0) rfl (AA (AD (vI 1) rfl (AF (AC (?_))))))
    refine AP (CB (AR (AZ rfl (FV rfl (DY (vs:=[vI 0,vI 0,vI 0,nS,nS]) rfl U28_ rfl BL rfl bx3159 rfl) (DN rfl rfl) (DN rfl rfl)) (?_))))
    have e3160:((AV c day).1)=(⟨(0:Int),(0:Int),(0:Int),[],[]⟩:Circle):=by exact congrArg (fun p=>p.1) (JX aS (by rw [hlr];assumption))
    have e3161:((AV c day).2.1)=(0:Int):=by exact congrArg (fun p=>p.2.1) (JX aS (by rw [hlr];assumption))
    have e3162:((AV c day).2.2)=(1:Int):=by exact congrArg (fun p=>p.2.2) (JX aS (by rw [hlr];assumption))
    exact ⟨_,rfl,s3156.keep,by rw [e3160,e3161,e3162];exact ⟨[vI 0,vI 0,vI 0,nS,nS],rfl,Enc.out (B:=(b3115 :: (b3085 :: []))) ⟨.slice none 0 0, .slice none 0 0,rfl,(BG.nil _ _ _),(BG.nil _ _ _)⟩⟩⟩
   ·have hp3163:(CT day ((c.recs[c.recs.length - 1]!).asked))=true:=by simpa using hc3153
    refine AG (?_)
    refine AB kR (AA (BD 2 KD rfl (AA (BI U3_ rfl (vI ((c.recs[c.recs.length - 1]!).state)) rfl bx3142 rfl (AA (EI .i64 ((c.recs[c.recs.length - 1]!).state) (0:Int) rfl rfl (AA (AD (vO (((c.recs[c.recs.length - 1]!).state) == (0:Int))) rfl (AF (AC (?_)))))))))))
    refine AO (((c.recs[c.recs.length - 1]!).state) == (0:Int)) rfl rfl (fun hc3164=>?_) (fun hc3164=>?_)
    ·have hp3165:(c.recs[c.recs.length - 1]!).state=(0:Int):=by simpa using hc3164
     refine AG (?_)
     refine AB kR (AA (BN (vs:=[vI 0,vI 0,vI 0,nS,nS]) U28_ rfl BL rfl bx3090 rfl (BY (BC (vs:=[vI 0,vI 0,vI 0,nS,nS]) (.agg #[vI 0,vI 0,vI 0,nS,nS]) rfl rfl rfl BL (fun u hu=>by simp only [List.mem_cons,List.not_mem_nil,or_false] at hu;rcases hu with rfl|rfl|rfl|rfl|rfl <;> rfl) (by repeat (constructor)) bx3090 oT s3149 fun w3166 s3167 m3168 k3169 bx3170=>(?_)))))
     refine AA (AD (vI 0) rfl (AA (AD (vI 451) rfl (AF (AC (?_))))))
     refine AP (CB (AR (AZ rfl (FV rfl (DY (vs:=[vI 0,vI 0,vI 0,nS,nS]) rfl U28_ rfl BL rfl bx3170 rfl) (DN rfl rfl) (DN rfl rfl)) (?_))))
     have e3171:((AV c day).1)=(⟨(0:Int),(0:Int),(0:Int),[],[]⟩:Circle):=by exact congrArg (fun p=>p.1) (OG aS (by rw [hlr];assumption) (by rw [hlr];assumption))
     have e3172:((AV c day).2.1)=(0:Int):=by exact congrArg (fun p=>p.2.1) (OG aS (by rw [hlr];assumption) (by rw [hlr];assumption))
     have e3173:((AV c day).2.2)=(451:Int):=by exact congrArg (fun p=>p.2.2) (OG aS (by rw [hlr];assumption) (by rw [hlr];assumption))
     exact ⟨_,rfl,s3167.keep,by rw [e3171,e3172,e3173];exact ⟨[vI 0,vI 0,vI 0,nS,nS],rfl,Enc.out (B:=(b3115 :: (b3085 :: []))) ⟨.slice none 0 0, .slice none 0 0,rfl,(BG.nil _ _ _),(BG.nil _ _ _)⟩⟩⟩
    ·have hp3174:(c.recs[c.recs.length - 1]!).state≠(0:Int):=by simpa using hc3164
     refine AG (?_)
     refine AB kR (AA (AE (vI (c.recs.length:Int)) rfl (AA (EI .i64 (c.recs.length:Int) (1024:Int) rfl rfl (AA (AD (vO ((c.recs.length:Int) == (1024:Int))) rfl (AF (AC (?_)))))))))
     refine AO ((c.recs.length:Int) == (1024:Int)) rfl rfl (fun hc3175=>?_) (fun hc3175=>?_)
     ·have hp3176:(c.recs.length:Int)=(1024:Int):=by simpa using hc3175
      refine AG (?_)
      refine AB kR (AA (BN (vs:=[vI 0,vI 0,vI 0,nS,nS]) U28_ rfl BL rfl bx3090 rfl (BY (BC (vs:=[vI 0,vI 0,vI 0,nS,nS]) (.agg #[vI 0,vI 0,vI 0,nS,nS]) rfl rfl rfl BL (fun u hu=>by simp only [List.mem_cons,List.not_mem_nil,or_false] at hu;rcases hu with rfl|rfl|rfl|rfl|rfl <;> rfl) (by repeat (constructor)) bx3090 oT s3149 fun w3177 s3178 m3179 k3180 bx3181=>(?_)))))
      refine AA (AD (vI 0) rfl (AA (AD (vI 2) rfl (AF (AC (?_))))))
      refine AP (CB (AR (AZ rfl (FV rfl (DY (vs:=[vI 0,vI 0,vI 0,nS,nS]) rfl U28_ rfl BL rfl bx3181 rfl) (DN rfl rfl) (DN rfl rfl)) (?_))))
      have e3182:((AV c day).1)=(⟨(0:Int),(0:Int),(0:Int),[],[]⟩:Circle):=by exact congrArg (fun p=>p.1) (IU aS (by rw [hlr];assumption) (by rw [hlr];assumption) aS)
      have e3183:((AV c day).2.1)=(0:Int):=by exact congrArg (fun p=>p.2.1) (IU aS (by rw [hlr];assumption) (by rw [hlr];assumption) aS)
      have e3184:((AV c day).2.2)=(2:Int):=by exact congrArg (fun p=>p.2.2) (IU aS (by rw [hlr];assumption) (by rw [hlr];assumption) aS)
      exact ⟨_,rfl,s3178.keep,by rw [e3182,e3183,e3184];exact ⟨[vI 0,vI 0,vI 0,nS,nS],rfl,Enc.out (B:=(b3115 :: (b3085 :: []))) ⟨.slice none 0 0, .slice none 0 0,rfl,(BG.nil _ _ _),(BG.nil _ _ _)⟩⟩⟩
     ·have hp3185:(c.recs.length:Int)≠(1024:Int):=by simpa using hc3175
      refine AU (CI (AC (?_)))
      refine AG (?_)
      refine AB kR (AA (CR U28_ rfl BL rfl hp3084 fun cs3186 hs3187=>(?_)))
      obtain ⟨d3193,d3195,rfl,hd3194,hd3196⟩:=hs3187
      have:=hd3194.len_le
      have:=hd3196.len_le
      refine BY (BC (vs:=[vI c.epoch,vI c.threshold,vI c.wait,d3193,d3195]) (.agg #[vI c.epoch,vI c.threshold,vI c.wait,d3193,d3195]) rfl rfl rfl BL (fun u hu=>by simp only [List.mem_cons,List.not_mem_nil,or_false] at hu;rcases hu with rfl|rfl|rfl|rfl|rfl <;> first|rfl|exact hd3194.oneCell|exact hd3196.oneCell) (by repeat (constructor)) bx3090 oT s3149 fun w3188 s3189 m3190 k3191 bx3192=>(?_))
      have hp3084:=hp3084.mv m3190
      have hd3194:=hd3194.mv m3190
      have bx3142:=bx3142.keep k3191 (BH (Ne.symm ne3122))
      refine AF (AC (?_))
      refine AG (?_)
      refine AB kR (AA (BM 4 DK (c.recs) rfl hp3084 (fun _ _ _ h=>CJ h) fun a3197 hp3198=>(AA (BW U26_ rfl rfl hp3198 fun v3199 hl3200=>(?_)))))
      have:=hl3200.len_le
      refine AA (KB [v3199] _ LX rfl (CH 8 Try.func67 rfl rfl oT (fun F3201=>?_)) (fun _ _ h=>h))
      refine AG (?_)
      refine AB kR (AA (AD (nS) rfl (AF (AC (?_)))))
      refine AG (?_)
      refine AG (?_)
      refine AB kR (AA (AE (v3199) rfl (AA (IO U26_ rfl rfl hl3200 fun bn3202 hbn3203=>(?_)))))
      refine AF (AC (?_))
      refine AO (bn3202) rfl rfl (fun hc3204=>?_) (fun hc3204=>?_)
      ·have hp3205:bn3202=true:=by simpa using hc3204
       refine AG (?_)
       refine AB kR (AA (AD (nS) rfl (AF (AC (?_)))))
       refine AP (AR (AZ rfl (CS rfl rfl rfl) (?_)))
       have hnl3207:c.recs=[]:=hbn3203 aS
       have hl3206:BG Enc.recovery w3188 ((b3115 :: (b3085 :: []))++O) (.slice none 0 0) (c.recs):=by rw [hnl3207];exact BG.nil _ _ _
       refine Exists.intro _ (And.intro rfl (?_))
       refine AA (AE (vI (c.recs.length:Int)) rfl (AA (AE (vI day) rfl (AA (EE (l:=[(0, .tmp 47),(1, .tmp 48),(2, .const (vI 0))]) pl_68 NS rfl [(0,vI (c.recs.length:Int),[vI (c.recs.length:Int)]),(1,vI day,[vI day]),(2,vI 0,[vI 0])] [vI (c.recs.length:Int),vI day,vI 0,nS,nS] rfl ⟨_,rfl,rfl,oT,⟨_,rfl,rfl,oT,⟨_,rfl,rfl,oT,rfl⟩⟩⟩ (AA (IK (E:=Enc.recovery) (xs:=[.tmp 49]) U26_ GA NS (by decide) [.agg #[vI (c.recs.length:Int),vI day,vI 0,nS,nS]] [[vI (c.recs.length:Int),vI day,vI 0,nS,nS]] [(⟨(c.recs.length:Int),day,(0:Int),[],[]⟩:Recovery)] rfl rfl rfl (Parts.cons rfl ⟨.slice none 0 0, .slice none 0 0,rfl,(BG.nil _ _ _),(BG.nil _ _ _)⟩ (Parts.nil _ _ _)) oT s3189 fun v3212 w3208 s3209 m3210 k3211 hl3213=>(?_))))))))
       have hd3194:=hd3194.mv m3210
       have bx3192:=bx3192.keep k3211 (by simp)
       have bx3142:=bx3142.keep k3211 (by simp)
       have:=hl3213.len_le
       refine AA (DG (v:=.slice none 0 0) (E:=Enc.recovery) (l:=c.recs) (m:=[(⟨(c.recs.length:Int),day,(0:Int),[],[]⟩:Recovery)]) U26_ UX rfl (by decide) rfl rfl (by rw [hnl3207];exact EJ.nil Enc.recovery 68 _ _ _) hl3213 (fun _ hb=>.inl hb) (by intro b hb;simp [Value.ownBlock] at hb) (by simp;omega) (by simp [maxLen];omega) s3209 fun v3218 w3214 B3220 hB3221 at3222 sub3223 s3215 m3216 k3217 ho3219=>(?_))
       have ne3224:∀ b,v3218.ownBlock=some b→b≠b3085:=fun b hb=>by rcases at3222 with e1|e1 <;> rw [e1] at hb <;> first|(simp [Value.ownBlock] at hb;done)|(cases hb;have:=bx3192.lt;omega)
       have ne3225:∀ b,v3218.ownBlock=some b→b≠b3115:=fun b hb=>by rcases at3222 with e1|e1 <;> rw [e1] at hb <;> first|(simp [Value.ownBlock] at hb;done)|(cases hb;have:=bx3142.lt;omega)
       have hin_b3085:b3085∈B3220:=sub3223 b3085 (by repeat (constructor))
       have hin_b3115:b3115∈B3220:=sub3223 b3115 (by repeat (constructor))
       have hd3194:=hd3194.mv m3216
       have bx3192:=bx3192.keep k3217 (by simp only [Option.mem_toList];(simp [Value.ownBlock];done))
       refine AA (BD 4 DK rfl (BY (CK (v3218) rfl rfl ho3219.oneCell s_26 (by repeat (assumption)) bx3192 oT s3215 fun w3226 s3227 m3228 k3229 bx3230=>(?_))))
       have hd3194:=hd3194.mv m3228
       have ho3219:=ho3219.mv m3228 k3229 (fun b hb=>BH (ne3224 b hb))
       refine AF (AC (?_))
       refine AG (?_)
       refine AB kR (AA (BN (vs:=[vI c.epoch,vI c.threshold,vI c.wait,d3193,v3218]) U28_ rfl BL rfl bx3230 rfl (AA (AE (vI (c.recs.length:Int)) rfl (BY (BC (vs:=[vI c.epoch,vI c.threshold,vI c.wait,d3193,v3218]) (.agg #[vI c.epoch,vI c.threshold,vI c.wait,d3193,v3218]) rfl rfl rfl BL (fun u hu=>by simp only [List.mem_cons,List.not_mem_nil,or_false] at hu;rcases hu with rfl|rfl|rfl|rfl|rfl <;> first|rfl|exact hd3194.oneCell|exact ho3219.oneCell) (by repeat (assumption)) bx3230 oT s3227 fun w3231 s3232 m3233 k3234 bx3235=>(?_)))))))
       have hd3194:=hd3194.mv m3233
       have ho3219:=ho3219.mv m3233 k3234 (fun b hb=>BH (ne3224 b hb))
       refine AA (AD (vI (c.recs.length:Int)) rfl (AA (AD (vI 0) rfl (AF (AC (?_))))))
       refine AP (AZ rfl (FV rfl (DY (vs:=[vI c.epoch,vI c.threshold,vI c.wait,d3193,v3218]) rfl U28_ rfl BL rfl bx3235 rfl) (DN rfl rfl) (DN rfl rfl)) (?_))
       have e3236:((AV c day).1)=(⟨c.epoch,c.threshold,c.wait,c.guardians,c.recs++([(⟨(c.recs.length:Int),day,(0:Int),[],[]⟩:Recovery)])⟩:Circle):=by exact congrArg (fun p=>p.1) (HB aS (by rw [hlr];assumption) (by rw [hlr];assumption) aS)
       have e3237:((AV c day).2.1)=(c.recs.length:Int):=by exact congrArg (fun p=>p.2.1) (HB aS (by rw [hlr];assumption) (by rw [hlr];assumption) aS)
       have e3238:((AV c day).2.2)=(0:Int):=by exact congrArg (fun p=>p.2.2) (HB aS (by rw [hlr];assumption) (by rw [hlr];assumption) aS)
       exact ⟨_,rfl,s3232.keep,by rw [e3236,e3237,e3238];exact ⟨[vI c.epoch,vI c.threshold,vI c.wait,d3193,v3218],rfl,⟨_,_,rfl,hd3194.out,(ho3219.pub s3232)⟩⟩⟩
      ·have hp3239:bn3202=false:=by simpa using hc3204
       refine AU (AC (?_))
       refine AG (?_)
       refine AB kR (AA (HP (E:=Enc.recovery) (xs:=[]) U26_ GA NS (by decide) [] [] [] rfl rfl rfl (Parts.nil _ _ _) oT s3189 fun v3244 b3246 w3240 e3247 hb3248 s3241 m3242 k3243 hl3245=>(?_)))
       have ne3249:∀ b,v3244.ownBlock=some b→b≠b3085:=fun b hb=>by have:=bx3192.lt;rw [hb3248] at hb;cases hb;omega
       have ne3250:∀ b,v3244.ownBlock=some b→b≠b3115:=fun b hb=>by have:=bx3142.lt;rw [hb3248] at hb;cases hb;omega
       have hB3251:∀ b,v3244.ownBlock=some b→b∈(b3246 :: (b3115 :: (b3085 :: []))):=fun b hb=>by rw [hb3248] at hb;cases hb;simp
       clear e3247 hb3248
       have hl3200:=hl3200.mv m3242
       have hd3194:=hd3194.mv m3242
       have bx3192:=bx3192.keep k3243 (by simp)
       have bx3142:=bx3142.keep k3243 (by simp)
       refine AA (AE (v3199) rfl (AA (DG (E:=Enc.recovery) (l:=[]) (m:=c.recs) U26_ UX rfl (by decide) rfl rfl hl3245 hl3200 (fun _ hb=>.inl hb) hB3251 (by simp;omega) (by simp [maxLen];omega) s3241 fun v3256 w3252 B3258 hB3259 at3260 sub3261 s3253 m3254 k3255 ho3257=>(?_))))
       rw [List.nil_append] at ho3257
       have ne3262:∀ b,v3256.ownBlock=some b→b≠b3085:=fun b hb=>by rcases at3260 with e1|e1 <;> rw [e1] at hb <;> first|(cases hb;have:=bx3192.lt;omega)|(exact ne3249 b hb)
       have ne3263:∀ b,v3256.ownBlock=some b→b≠b3115:=fun b hb=>by rcases at3260 with e1|e1 <;> rw [e1] at hb <;> first|(cases hb;have:=bx3142.lt;omega)|(exact ne3250 b hb)
       have hin_b3085:b3085∈B3258:=sub3261 b3085 (by repeat (constructor))
       have hin_b3115:b3115∈B3258:=sub3261 b3115 (by repeat (constructor))
       have hd3194:=hd3194.mv m3254
       have bx3192:=bx3192.keep k3255 (by simp only [Option.mem_toList];exact fun e=>absurd rfl (ne3249 _ e))
       have bx3142:=bx3142.keep k3255 (by simp only [Option.mem_toList];exact fun e=>absurd rfl (ne3250 _ e))
       refine AA (AD (v3256) rfl (AF (AC (?_))))
       refine AP (AZ rfl (CS rfl rfl rfl) (Exists.intro _ (And.intro rfl (?_))))
       refine AA (AE (vI (c.recs.length:Int)) rfl (AA (AE (vI day) rfl (AA (EE (l:=[(0, .tmp 47),(1, .tmp 48),(2, .const (vI 0))]) pl_68 NS rfl [(0,vI (c.recs.length:Int),[vI (c.recs.length:Int)]),(1,vI day,[vI day]),(2,vI 0,[vI 0])] [vI (c.recs.length:Int),vI day,vI 0,nS,nS] rfl ⟨_,rfl,rfl,oT,⟨_,rfl,rfl,oT,⟨_,rfl,rfl,oT,rfl⟩⟩⟩ (AA (IK (E:=Enc.recovery) (xs:=[.tmp 49]) U26_ GA NS (by decide) [.agg #[vI (c.recs.length:Int),vI day,vI 0,nS,nS]] [[vI (c.recs.length:Int),vI day,vI 0,nS,nS]] [(⟨(c.recs.length:Int),day,(0:Int),[],[]⟩:Recovery)] rfl rfl rfl (Parts.cons rfl ⟨.slice none 0 0, .slice none 0 0,rfl,(BG.nil _ _ _),(BG.nil _ _ _)⟩ (Parts.nil _ _ _)) oT s3253 fun v3268 w3264 s3265 m3266 k3267 hl3269=>(?_))))))))
       have hd3194:=hd3194.mv m3266
       have ho3257:=ho3257.mv m3266 k3267 (by simp)
       have bx3192:=bx3192.keep k3267 (by simp)
       have bx3142:=bx3142.keep k3267 (by simp)
       have:=hl3269.len_le
       refine AA (DG (E:=Enc.recovery) (l:=c.recs) (m:=[(⟨(c.recs.length:Int),day,(0:Int),[],[]⟩:Recovery)]) U26_ UX rfl (by decide) rfl rfl ho3257 hl3269 (fun _ hb=>.inl hb) hB3259 (by simp;omega) (by simp [maxLen];omega) s3265 fun v3274 w3270 B3276 hB3277 at3278 sub3279 s3271 m3272 k3273 ho3275=>(?_))
       have ne3280:∀ b,v3274.ownBlock=some b→b≠b3085:=fun b hb=>by rcases at3278 with e1|e1 <;> rw [e1] at hb <;> first|(cases hb;have:=bx3192.lt;omega)|(exact ne3262 b hb)
       have ne3281:∀ b,v3274.ownBlock=some b→b≠b3115:=fun b hb=>by rcases at3278 with e1|e1 <;> rw [e1] at hb <;> first|(cases hb;have:=bx3142.lt;omega)|(exact ne3263 b hb)
       have hin_b3085:b3085∈B3276:=sub3279 b3085 (by repeat (assumption))
       have hin_b3115:b3115∈B3276:=sub3279 b3115 (by repeat (assumption))
       have hd3194:=hd3194.mv m3272
       have bx3192:=bx3192.keep k3273 (by simp only [Option.mem_toList];exact fun e=>absurd rfl (ne3262 _ e))
       refine AA (BD 4 DK rfl (BY (CK (v3274) rfl rfl ho3275.oneCell s_26 (by repeat (assumption)) bx3192 oT s3271 fun w3282 s3283 m3284 k3285 bx3286=>(?_))))
       have hd3194:=hd3194.mv m3284
       have ho3275:=ho3275.mv m3284 k3285 (fun b hb=>BH (ne3280 b hb))
       refine AF (AC (?_))
       refine AG (?_)
       refine AB kR (AA (BN (vs:=[vI c.epoch,vI c.threshold,vI c.wait,d3193,v3274]) U28_ rfl BL rfl bx3286 rfl (AA (AE (vI (c.recs.length:Int)) rfl (BY (BC (vs:=[vI c.epoch,vI c.threshold,vI c.wait,d3193,v3274]) (.agg #[vI c.epoch,vI c.threshold,vI c.wait,d3193,v3274]) rfl rfl rfl BL (fun u hu=>by simp only [List.mem_cons,List.not_mem_nil,or_false] at hu;rcases hu with rfl|rfl|rfl|rfl|rfl <;> first|rfl|exact hd3194.oneCell|exact ho3275.oneCell) (by repeat (assumption)) bx3286 oT s3283 fun w3287 s3288 m3289 k3290 bx3291=>(?_)))))))
       have hd3194:=hd3194.mv m3289
       have ho3275:=ho3275.mv m3289 k3290 (fun b hb=>BH (ne3280 b hb))
       refine AA (AD (vI (c.recs.length:Int)) rfl (AA (AD (vI 0) rfl (AF (AC (?_))))))
       refine AP (AZ rfl (FV rfl (DY (vs:=[vI c.epoch,vI c.threshold,vI c.wait,d3193,v3274]) rfl U28_ rfl BL rfl bx3291 rfl) (DN rfl rfl) (DN rfl rfl)) (?_))
       have e3292:((AV c day).1)=(⟨c.epoch,c.threshold,c.wait,c.guardians,c.recs++([(⟨(c.recs.length:Int),day,(0:Int),[],[]⟩:Recovery)])⟩:Circle):=by exact congrArg (fun p=>p.1) (HB aS (by rw [hlr];assumption) (by rw [hlr];assumption) aS)
       have e3293:((AV c day).2.1)=(c.recs.length:Int):=by exact congrArg (fun p=>p.2.1) (HB aS (by rw [hlr];assumption) (by rw [hlr];assumption) aS)
       have e3294:((AV c day).2.2)=(0:Int):=by exact congrArg (fun p=>p.2.2) (HB aS (by rw [hlr];assumption) (by rw [hlr];assumption) aS)
       exact ⟨_,rfl,s3288.keep,by rw [e3292,e3293,e3294];exact ⟨[vI c.epoch,vI c.threshold,vI c.wait,d3193,v3274],rfl,⟨_,_,rfl,hd3194.out,(ho3275.pub s3288)⟩⟩⟩
  ·have hp3295:(c.recs.length:Int)≤(0:Int):=by simpa using hc3128
   have hlr:IL c = ⟨0,0,1,[],[]⟩:=if_neg oM
   refine AU (AC (?_))
   refine AG (?_)
   refine BR (?_)
   refine AG (?_)
   refine AB kR (AA (AE (vI day) rfl (AA (BD 1 NC rfl (AA (BI U3_ rfl (vI 0) rfl bx3127 rfl (AA (BB (vs:=[vI day,vI 0]) LS (OL (O:=(b3115 :: (b3085 :: []))++O) day (0:Int) w3123 s3124.lt) rfl s3124 fun v3296 w3297 s3298 m3299 k3300 r3301=>(?_)))))))))
   obtain rfl:=r3301
   have hp3084:=hp3084.mv m3299
   have bx3090:=bx3090.keep k3300 (by simp)
   have bx3127:=bx3127.keep k3300 (by simp)
   refine AA (HC (CT day (0:Int)) rfl (AA (AD (vO (!(CT day (0:Int)))) rfl (AF (AC (?_))))))
   refine AO (!(CT day (0:Int))) rfl rfl (fun hc3302=>?_) (fun hc3302=>?_)
   ·have hp3303:(CT day (0:Int))=false:=by simpa using hc3302
    refine AG (?_)
    refine AB kR (AA (BN (vs:=[vI 0,vI 0,vI 0,nS,nS]) U28_ rfl BL rfl bx3090 rfl (BY (BC (vs:=[vI 0,vI 0,vI 0,nS,nS]) (.agg #[vI 0,vI 0,vI 0,nS,nS]) rfl rfl rfl BL (fun u hu=>by simp only [List.mem_cons,List.not_mem_nil,or_false] at hu;rcases hu with rfl|rfl|rfl|rfl|rfl <;> rfl) (by repeat (constructor)) bx3090 oT s3298 fun w3304 s3305 m3306 k3307 bx3308=>(?_)))))
    refine AA (AD (vI 0) rfl (AA (AD (vI 1) rfl (AF (AC (?_))))))
    refine AP (CB (AR (AZ rfl (FV rfl (DY (vs:=[vI 0,vI 0,vI 0,nS,nS]) rfl U28_ rfl BL rfl bx3308 rfl) (DN rfl rfl) (DN rfl rfl)) (?_))))
    have e3309:((AV c day).1)=(⟨(0:Int),(0:Int),(0:Int),[],[]⟩:Circle):=by exact congrArg (fun p=>p.1) (JX aS (by rw [hlr];assumption))
    have e3310:((AV c day).2.1)=(0:Int):=by exact congrArg (fun p=>p.2.1) (JX aS (by rw [hlr];assumption))
    have e3311:((AV c day).2.2)=(1:Int):=by exact congrArg (fun p=>p.2.2) (JX aS (by rw [hlr];assumption))
    exact ⟨_,rfl,s3305.keep,by rw [e3309,e3310,e3311];exact ⟨[vI 0,vI 0,vI 0,nS,nS],rfl,Enc.out (B:=(b3115 :: (b3085 :: []))) ⟨.slice none 0 0, .slice none 0 0,rfl,(BG.nil _ _ _),(BG.nil _ _ _)⟩⟩⟩
   ·have hp3312:(CT day (0:Int))=true:=by simpa using hc3302
    refine AG (?_)
    refine AB kR (AA (BD 2 KD rfl (AA (BI U3_ rfl (vI 1) rfl bx3127 rfl (AA (EI .i64 (1:Int) (0:Int) rfl rfl (AA (AD (vO false) rfl (AF (AC (?_)))))))))))
    refine AO false rfl rfl (fun h=>by cases h) (fun _=>?_)
    refine AG (?_)
    refine AB kR (AA (AE (vI (c.recs.length:Int)) rfl (AA (EI .i64 (c.recs.length:Int) (1024:Int) rfl rfl (AA (AD (vO ((c.recs.length:Int) == (1024:Int))) rfl (AF (AC (?_)))))))))
    refine AO ((c.recs.length:Int) == (1024:Int)) rfl rfl (fun hc3313=>?_) (fun hc3313=>?_)
    ·have hp3314:(c.recs.length:Int)=(1024:Int):=by simpa using hc3313
     refine AG (?_)
     refine AB kR (AA (BN (vs:=[vI 0,vI 0,vI 0,nS,nS]) U28_ rfl BL rfl bx3090 rfl (BY (BC (vs:=[vI 0,vI 0,vI 0,nS,nS]) (.agg #[vI 0,vI 0,vI 0,nS,nS]) rfl rfl rfl BL (fun u hu=>by simp only [List.mem_cons,List.not_mem_nil,or_false] at hu;rcases hu with rfl|rfl|rfl|rfl|rfl <;> rfl) (by repeat (constructor)) bx3090 oT s3298 fun w3315 s3316 m3317 k3318 bx3319=>(?_)))))
     refine AA (AD (vI 0) rfl (AA (AD (vI 2) rfl (AF (AC (?_))))))
     refine AP (CB (AR (AZ rfl (FV rfl (DY (vs:=[vI 0,vI 0,vI 0,nS,nS]) rfl U28_ rfl BL rfl bx3319 rfl) (DN rfl rfl) (DN rfl rfl)) (?_))))
     have e3320:((AV c day).1)=(⟨(0:Int),(0:Int),(0:Int),[],[]⟩:Circle):=by exact congrArg (fun p=>p.1) (IU aS (by rw [hlr];assumption) (by rw [hlr];decide) aS)
     have e3321:((AV c day).2.1)=(0:Int):=by exact congrArg (fun p=>p.2.1) (IU aS (by rw [hlr];assumption) (by rw [hlr];decide) aS)
     have e3322:((AV c day).2.2)=(2:Int):=by exact congrArg (fun p=>p.2.2) (IU aS (by rw [hlr];assumption) (by rw [hlr];decide) aS)
     exact ⟨_,rfl,s3316.keep,by rw [e3320,e3321,e3322];exact ⟨[vI 0,vI 0,vI 0,nS,nS],rfl,Enc.out (B:=(b3115 :: (b3085 :: []))) ⟨.slice none 0 0, .slice none 0 0,rfl,(BG.nil _ _ _),(BG.nil _ _ _)⟩⟩⟩
    ·have hp3323:(c.recs.length:Int)≠(1024:Int):=by simpa using hc3313
     refine AU (CI (AC (?_)))
     refine AG (?_)
     refine AB kR (AA (CR U28_ rfl BL rfl hp3084 fun cs3324 hs3325=>(?_)))
     obtain ⟨d3331,d3333,rfl,hd3332,hd3334⟩:=hs3325
     have:=hd3332.len_le
     have:=hd3334.len_le
     refine BY (BC (vs:=[vI c.epoch,vI c.threshold,vI c.wait,d3331,d3333]) (.agg #[vI c.epoch,vI c.threshold,vI c.wait,d3331,d3333]) rfl rfl rfl BL (fun u hu=>by simp only [List.mem_cons,List.not_mem_nil,or_false] at hu;rcases hu with rfl|rfl|rfl|rfl|rfl <;> first|rfl|exact hd3332.oneCell|exact hd3334.oneCell) (by repeat (constructor)) bx3090 oT s3298 fun w3326 s3327 m3328 k3329 bx3330=>(?_))
     have hp3084:=hp3084.mv m3328
     have hd3332:=hd3332.mv m3328
     have bx3127:=bx3127.keep k3329 (BH (Ne.symm ne3122))
     refine AF (AC (?_))
     refine AG (?_)
     refine AB kR (AA (BM 4 DK (c.recs) rfl hp3084 (fun _ _ _ h=>CJ h) fun a3335 hp3336=>(AA (BW U26_ rfl rfl hp3336 fun v3337 hl3338=>(?_)))))
     have:=hl3338.len_le
     refine AA (KB [v3337] _ LX rfl (CH 8 Try.func67 rfl rfl oT (fun F3339=>?_)) (fun _ _ h=>h))
     refine AG (?_)
     refine AB kR (AA (AD (nS) rfl (AF (AC (?_)))))
     refine AG (?_)
     refine AG (?_)
     refine AB kR (AA (AE (v3337) rfl (AA (IO U26_ rfl rfl hl3338 fun bn3340 hbn3341=>(?_)))))
     refine AF (AC (?_))
     refine AO (bn3340) rfl rfl (fun hc3342=>?_) (fun hc3342=>?_)
     ·have hp3343:bn3340=true:=by simpa using hc3342
      refine AG (?_)
      refine AB kR (AA (AD (nS) rfl (AF (AC (?_)))))
      refine AP (AR (AZ rfl (CS rfl rfl rfl) (?_)))
      have hnl3345:c.recs=[]:=hbn3341 aS
      have hl3344:BG Enc.recovery w3326 ((b3115 :: (b3085 :: []))++O) (.slice none 0 0) (c.recs):=by rw [hnl3345];exact BG.nil _ _ _
      refine Exists.intro _ (And.intro rfl (?_))
      refine AA (AE (vI (c.recs.length:Int)) rfl (AA (AE (vI day) rfl (AA (EE (l:=[(0, .tmp 47),(1, .tmp 48),(2, .const (vI 0))]) pl_68 NS rfl [(0,vI (c.recs.length:Int),[vI (c.recs.length:Int)]),(1,vI day,[vI day]),(2,vI 0,[vI 0])] [vI (c.recs.length:Int),vI day,vI 0,nS,nS] rfl ⟨_,rfl,rfl,oT,⟨_,rfl,rfl,oT,⟨_,rfl,rfl,oT,rfl⟩⟩⟩ (AA (IK (E:=Enc.recovery) (xs:=[.tmp 49]) U26_ GA NS (by decide) [.agg #[vI (c.recs.length:Int),vI day,vI 0,nS,nS]] [[vI (c.recs.length:Int),vI day,vI 0,nS,nS]] [(⟨(c.recs.length:Int),day,(0:Int),[],[]⟩:Recovery)] rfl rfl rfl (Parts.cons rfl ⟨.slice none 0 0, .slice none 0 0,rfl,(BG.nil _ _ _),(BG.nil _ _ _)⟩ (Parts.nil _ _ _)) oT s3327 fun v3350 w3346 s3347 m3348 k3349 hl3351=>(?_))))))))
      have hd3332:=hd3332.mv m3348
      have bx3330:=bx3330.keep k3349 (by simp)
      have bx3127:=bx3127.keep k3349 (by simp)
      have:=hl3351.len_le
      refine AA (DG (v:=.slice none 0 0) (E:=Enc.recovery) (l:=c.recs) (m:=[(⟨(c.recs.length:Int),day,(0:Int),[],[]⟩:Recovery)]) U26_ UX rfl (by decide) rfl rfl (by rw [hnl3345];exact EJ.nil Enc.recovery 68 _ _ _) hl3351 (fun _ hb=>.inl hb) (by intro b hb;simp [Value.ownBlock] at hb) (by simp;omega) (by simp [maxLen];omega) s3347 fun v3356 w3352 B3358 hB3359 at3360 sub3361 s3353 m3354 k3355 ho3357=>(?_))
      have ne3362:∀ b,v3356.ownBlock=some b→b≠b3085:=fun b hb=>by rcases at3360 with e1|e1 <;> rw [e1] at hb <;> first|(simp [Value.ownBlock] at hb;done)|(cases hb;have:=bx3330.lt;omega)
      have ne3363:∀ b,v3356.ownBlock=some b→b≠b3115:=fun b hb=>by rcases at3360 with e1|e1 <;> rw [e1] at hb <;> first|(simp [Value.ownBlock] at hb;done)|(cases hb;have:=bx3127.lt;omega)
      have hin_b3085:b3085∈B3358:=sub3361 b3085 (by repeat (constructor))
      have hin_b3115:b3115∈B3358:=sub3361 b3115 (by repeat (constructor))
      have hd3332:=hd3332.mv m3354
      have bx3330:=bx3330.keep k3355 (by simp only [Option.mem_toList];(simp [Value.ownBlock];done))
      refine AA (BD 4 DK rfl (BY (CK (v3356) rfl rfl ho3357.oneCell s_26 (by repeat (assumption)) bx3330 oT s3353 fun w3364 s3365 m3366 k3367 bx3368=>(?_))))
      have hd3332:=hd3332.mv m3366
      have ho3357:=ho3357.mv m3366 k3367 (fun b hb=>BH (ne3362 b hb))
      refine AF (AC (?_))
      refine AG (?_)
      refine AB kR (AA (BN (vs:=[vI c.epoch,vI c.threshold,vI c.wait,d3331,v3356]) U28_ rfl BL rfl bx3368 rfl (AA (AE (vI (c.recs.length:Int)) rfl (BY (BC (vs:=[vI c.epoch,vI c.threshold,vI c.wait,d3331,v3356]) (.agg #[vI c.epoch,vI c.threshold,vI c.wait,d3331,v3356]) rfl rfl rfl BL (fun u hu=>by simp only [List.mem_cons,List.not_mem_nil,or_false] at hu;rcases hu with rfl|rfl|rfl|rfl|rfl <;> first|rfl|exact hd3332.oneCell|exact ho3357.oneCell) (by repeat (assumption)) bx3368 oT s3365 fun w3369 s3370 m3371 k3372 bx3373=>(?_)))))))
      have hd3332:=hd3332.mv m3371
      have ho3357:=ho3357.mv m3371 k3372 (fun b hb=>BH (ne3362 b hb))
      refine AA (AD (vI (c.recs.length:Int)) rfl (AA (AD (vI 0) rfl (AF (AC (?_))))))
      refine AP (AZ rfl (FV rfl (DY (vs:=[vI c.epoch,vI c.threshold,vI c.wait,d3331,v3356]) rfl U28_ rfl BL rfl bx3373 rfl) (DN rfl rfl) (DN rfl rfl)) (?_))
      have e3374:((AV c day).1)=(⟨c.epoch,c.threshold,c.wait,c.guardians,c.recs++([(⟨(c.recs.length:Int),day,(0:Int),[],[]⟩:Recovery)])⟩:Circle):=by exact congrArg (fun p=>p.1) (HB aS (by rw [hlr];assumption) (by rw [hlr];decide) aS)
      have e3375:((AV c day).2.1)=(c.recs.length:Int):=by exact congrArg (fun p=>p.2.1) (HB aS (by rw [hlr];assumption) (by rw [hlr];decide) aS)
      have e3376:((AV c day).2.2)=(0:Int):=by exact congrArg (fun p=>p.2.2) (HB aS (by rw [hlr];assumption) (by rw [hlr];decide) aS)
      exact ⟨_,rfl,s3370.keep,by rw [e3374,e3375,e3376];exact ⟨[vI c.epoch,vI c.threshold,vI c.wait,d3331,v3356],rfl,⟨_,_,rfl,hd3332.out,(ho3357.pub s3370)⟩⟩⟩
     ·have hp3377:bn3340=false:=by simpa using hc3342
      refine AU (AC (?_))
      refine AG (?_)
      refine AB kR (AA (HP (E:=Enc.recovery) (xs:=[]) U26_ GA NS (by decide) [] [] [] rfl rfl rfl (Parts.nil _ _ _) oT s3327 fun v3382 b3384 w3378 e3385 hb3386 s3379 m3380 k3381 hl3383=>(?_)))
      have ne3387:∀ b,v3382.ownBlock=some b→b≠b3085:=fun b hb=>by have:=bx3330.lt;rw [hb3386] at hb;cases hb;omega
      have ne3388:∀ b,v3382.ownBlock=some b→b≠b3115:=fun b hb=>by have:=bx3127.lt;rw [hb3386] at hb;cases hb;omega
      have hB3389:∀ b,v3382.ownBlock=some b→b∈(b3384 :: (b3115 :: (b3085 :: []))):=fun b hb=>by rw [hb3386] at hb;cases hb;simp
      clear e3385 hb3386
      have hl3338:=hl3338.mv m3380
      have hd3332:=hd3332.mv m3380
      have bx3330:=bx3330.keep k3381 (by simp)
      have bx3127:=bx3127.keep k3381 (by simp)
      refine AA (AE (v3337) rfl (AA (DG (E:=Enc.recovery) (l:=[]) (m:=c.recs) U26_ UX rfl (by decide) rfl rfl hl3383 hl3338 (fun _ hb=>.inl hb) hB3389 (by simp;omega) (by simp [maxLen];omega) s3379 fun v3394 w3390 B3396 hB3397 at3398 sub3399 s3391 m3392 k3393 ho3395=>(?_))))
      rw [List.nil_append] at ho3395
      have ne3400:∀ b,v3394.ownBlock=some b→b≠b3085:=fun b hb=>by rcases at3398 with e1|e1 <;> rw [e1] at hb <;> first|(cases hb;have:=bx3330.lt;omega)|(exact ne3387 b hb)
      have ne3401:∀ b,v3394.ownBlock=some b→b≠b3115:=fun b hb=>by rcases at3398 with e1|e1 <;> rw [e1] at hb <;> first|(cases hb;have:=bx3127.lt;omega)|(exact ne3388 b hb)
      have hin_b3085:b3085∈B3396:=sub3399 b3085 (by repeat (constructor))
      have hin_b3115:b3115∈B3396:=sub3399 b3115 (by repeat (constructor))
      have hd3332:=hd3332.mv m3392
      have bx3330:=bx3330.keep k3393 (by simp only [Option.mem_toList];exact fun e=>absurd rfl (ne3387 _ e))
      have bx3127:=bx3127.keep k3393 (by simp only [Option.mem_toList];exact fun e=>absurd rfl (ne3388 _ e))
      refine AA (AD (v3394) rfl (AF (AC (?_))))
      refine AP (AZ rfl (CS rfl rfl rfl) (Exists.intro _ (And.intro rfl (?_))))
      refine AA (AE (vI (c.recs.length:Int)) rfl (AA (AE (vI day) rfl (AA (EE (l:=[(0, .tmp 47),(1, .tmp 48),(2, .const (vI 0))]) pl_68 NS rfl [(0,vI (c.recs.length:Int),[vI (c.recs.length:Int)]),(1,vI day,[vI day]),(2,vI 0,[vI 0])] [vI (c.recs.length:Int),vI day,vI 0,nS,nS] rfl ⟨_,rfl,rfl,oT,⟨_,rfl,rfl,oT,⟨_,rfl,rfl,oT,rfl⟩⟩⟩ (AA (IK (E:=Enc.recovery) (xs:=[.tmp 49]) U26_ GA NS (by decide) [.agg #[vI (c.recs.length:Int),vI day,vI 0,nS,nS]] [[vI (c.recs.length:Int),vI day,vI 0,nS,nS]] [(⟨(c.recs.length:Int),day,(0:Int),[],[]⟩:Recovery)] rfl rfl rfl (Parts.cons rfl ⟨.slice none 0 0, .slice none 0 0,rfl,(BG.nil _ _ _),(BG.nil _ _ _)⟩ (Parts.nil _ _ _)) oT s3391 fun v3406 w3402 s3403 m3404 k3405 hl3407=>(?_))))))))
      have hd3332:=hd3332.mv m3404
      have ho3395:=ho3395.mv m3404 k3405 (by simp)
      have bx3330:=bx3330.keep k3405 (by simp)
      have bx3127:=bx3127.keep k3405 (by simp)
      have:=hl3407.len_le
      refine AA (DG (E:=Enc.recovery) (l:=c.recs) (m:=[(⟨(c.recs.length:Int),day,(0:Int),[],[]⟩:Recovery)]) U26_ UX rfl (by decide) rfl rfl ho3395 hl3407 (fun _ hb=>.inl hb) hB3397 (by simp;omega) (by simp [maxLen];omega) s3403 fun v3412 w3408 B3414 hB3415 at3416 sub3417 s3409 m3410 k3411 ho3413=>(?_))
      have ne3418:∀ b,v3412.ownBlock=some b→b≠b3085:=fun b hb=>by rcases at3416 with e1|e1 <;> rw [e1] at hb <;> first|(cases hb;have:=bx3330.lt;omega)|(exact ne3400 b hb)
      have ne3419:∀ b,v3412.ownBlock=some b→b≠b3115:=fun b hb=>by rcases at3416 with e1|e1 <;> rw [e1] at hb <;> first|(cases hb;have:=bx3127.lt;omega)|(exact ne3401 b hb)
      have hin_b3085:b3085∈B3414:=sub3417 b3085 (by repeat (assumption))
      have hin_b3115:b3115∈B3414:=sub3417 b3115 (by repeat (assumption))
      have hd3332:=hd3332.mv m3410
      have bx3330:=bx3330.keep k3411 (by simp only [Option.mem_toList];exact fun e=>absurd rfl (ne3400 _ e))
      refine AA (BD 4 DK rfl (BY (CK (v3412) rfl rfl ho3413.oneCell s_26 (by repeat (assumption)) bx3330 oT s3409 fun w3420 s3421 m3422 k3423 bx3424=>(?_))))
      have hd3332:=hd3332.mv m3422
      have ho3413:=ho3413.mv m3422 k3423 (fun b hb=>BH (ne3418 b hb))
      refine AF (AC (?_))
      refine AG (?_)
      refine AB kR (AA (BN (vs:=[vI c.epoch,vI c.threshold,vI c.wait,d3331,v3412]) U28_ rfl BL rfl bx3424 rfl (AA (AE (vI (c.recs.length:Int)) rfl (BY (BC (vs:=[vI c.epoch,vI c.threshold,vI c.wait,d3331,v3412]) (.agg #[vI c.epoch,vI c.threshold,vI c.wait,d3331,v3412]) rfl rfl rfl BL (fun u hu=>by simp only [List.mem_cons,List.not_mem_nil,or_false] at hu;rcases hu with rfl|rfl|rfl|rfl|rfl <;> first|rfl|exact hd3332.oneCell|exact ho3413.oneCell) (by repeat (assumption)) bx3424 oT s3421 fun w3425 s3426 m3427 k3428 bx3429=>(?_)))))))
      have hd3332:=hd3332.mv m3427
      have ho3413:=ho3413.mv m3427 k3428 (fun b hb=>BH (ne3418 b hb))
      refine AA (AD (vI (c.recs.length:Int)) rfl (AA (AD (vI 0) rfl (AF (AC (?_))))))
      refine AP (AZ rfl (FV rfl (DY (vs:=[vI c.epoch,vI c.threshold,vI c.wait,d3331,v3412]) rfl U28_ rfl BL rfl bx3429 rfl) (DN rfl rfl) (DN rfl rfl)) (?_))
      have e3430:((AV c day).1)=(⟨c.epoch,c.threshold,c.wait,c.guardians,c.recs++([(⟨(c.recs.length:Int),day,(0:Int),[],[]⟩:Recovery)])⟩:Circle):=by exact congrArg (fun p=>p.1) (HB aS (by rw [hlr];assumption) (by rw [hlr];decide) aS)
      have e3431:((AV c day).2.1)=(c.recs.length:Int):=by exact congrArg (fun p=>p.2.1) (HB aS (by rw [hlr];assumption) (by rw [hlr];decide) aS)
      have e3432:((AV c day).2.2)=(0:Int):=by exact congrArg (fun p=>p.2.2) (HB aS (by rw [hlr];assumption) (by rw [hlr];decide) aS)
      exact ⟨_,rfl,s3426.keep,by rw [e3430,e3431,e3432];exact ⟨[vI c.epoch,vI c.threshold,vI c.wait,d3331,v3412],rfl,⟨_,_,rfl,hd3332.out,(ho3413.pub s3426)⟩⟩⟩
set_option maxHeartbeats 4000000 in
set_option maxRecDepth 100000 in
theorem c_approved {O:List Nat} (c_cs:List Value) (c:Circle) (r_a:Addr) (r:Recovery) (w:World) (h_c:Enc.circle.rd w O c_cs c) (h_r:PT Enc.recovery w O (.pointer (some r_a)) r) (hO:∀ b∈O,b<w.heap.size):CF Try.prog 85 [.agg c_cs.toArray, .pointer (some r_a)] w (fun v _=>v = .bool (LD c r)):= by
 have h_c:Enc.circle.rd w ([]++O) c_cs c:=h_c
 have h_r:PT Enc.recovery w ([]++O) (.pointer (some r_a)) r:=h_r
 have s0:St w O w []:=St.start hO
 refine BQ 29 Try.func85 rfl rfl oT (fun F0=>?_)
 refine AG (?_)
 refine AB kR (AA (DO (E:=Enc.circle) (vA c_cs.toArray) (c_cs) c rfl rfl h_c s0 fun a3433 w3434 s3435 m3436 k3437 hp3438=>(?_)))
 have h_r:=h_r.mv m3436
 refine AA (AD (vO false) rfl (AF (AC (?_))))
 refine AG (?_)
 refine AB kR (AA (AD (vI 0) rfl (AF (AC (?_)))))
 refine AG (?_)
 refine AG (?_)
 refine AB kR (AA (BM 3 JW (c.guardians) rfl hp3438 (fun _ _ _ h=>EQ h) fun a3439 hp3440=>(AA (BW U22_ rfl rfl hp3440 fun v3441 hl3442=>(?_)))))
 have:=hl3442.len_le
 refine AA (CG U22_ rfl hl3442 (AA (AE (vI 0) rfl (AF (AC (?_))))))
 refine BR (?_)
 refine DH (fun mI FI wI=>∃ (k:Nat) (B:List Nat),k≤c.guardians.length∧mI=c.guardians.length - k∧(∃ F1,FI=FT F1 [(1,vP (some r_a)),(2,vP (some a3433)),(5,vI ((HR r.approved c.guardians k:Nat):Int)),(9,v3441),(10,vI (c.guardians.length:Int)),(11,vI ((k:Nat):Int)),(29,undef)])∧St w O wI B∧PT Enc.recovery wI (B++O) (.pointer (some r_a)) (r)∧PT Enc.circle wI (B++O) (.pointer (some a3433)) (c)∧BG Enc.int wI (B++O) (v3441) (c.guardians)) (c.guardians.length - (0)) ?_ ?_
 ·exact ⟨(0),[],oM,rfl,⟨_,AX _ ⟨rfl,rfl,(by rfl),rfl,rfl,(by rfl),rfl,trivial⟩⟩,s3435,h_r,hp3438,hl3442⟩
 ·intro ml0 F wl0 hI
  clear h_r hp3438 hl3442
  obtain ⟨k,Bl0,hr0_0,hm0,⟨Fl0,rfl⟩,sl0,h_r,hp3438,hl3442⟩:=hI
  have hcm:=countM_le r.approved c.guardians k
  refine AG (?_)
  refine AB kR (AA (DW .i64 ((k:Nat):Int) (c.guardians.length:Int) rfl rfl (AF (AC (?_)))))
  refine AG (?_)
  refine AO (decide (((k:Nat):Int)<(c.guardians.length:Int))) rfl rfl (fun hc3443=>?_) (fun hc3443=>?_)
  ·have hp3444:((k:Nat):Int)<(c.guardians.length:Int):=by simpa using hc3443
   refine AU (AC (?_))
   refine AG (?_)
   refine BR (?_)
   refine AG (?_)
   refine AB kR (AA (DI U22_ MW .i64 ((k:Nat):Int) k rfl rfl rfl hl3442 oM fun a3445 hp3446=>(AA (CE U3_ rfl rfl hp3446 (AA (AD (vI (c.guardians[k]!)) rfl (AF (AC (?_)))))))))
   refine AG (?_)
   refine AB kR (AA (AE (vP (some r_a)) rfl (AA (EO r_a rfl (AA (o_field0 GX rfl (AA (BM 3 PB (r.approved) rfl h_r (fun _ _ _ h=>JK h) fun a3447 hp3448=>(AA (BW U22_ rfl rfl hp3448 fun v3449 hl3450=>(?_)))))))))))
   have:=hl3450.len_le
   refine AA (AE (vI (c.guardians[k]!)) rfl (AA (BB (vs:=[v3449,vI (c.guardians[k]!)]) enter_75 (UA (O:=Bl0++O) v3449 r.approved (c.guardians[k]!) wl0 hl3450 sl0.lt) rfl sl0 fun v3451 w3452 s3453 m3454 k3455 r3456=>(?_))))
   obtain rfl:=r3456
   have h_r:=h_r.mv m3454
   have hp3438:=hp3438.mv m3454
   have hl3442:=hl3442.mv m3454
   refine AF (AC (?_))
   refine AO (r.approved.contains (c.guardians[k]!)) rfl rfl (fun hc3457=>?_) (fun hc3457=>?_)
   ·have hp3458:(r.approved.contains (c.guardians[k]!))=true:=by simpa using hc3457
    refine AB kR (AA (AE (vI ((HR r.approved c.guardians k:Nat):Int)) rfl (AA (DC .i64 ((HR r.approved c.guardians k:Nat):Int) (1:Int) (((HR r.approved c.guardians k+1:Nat):Int)) rfl rfl (FO oM oM) (AA (AD (vI ((HR r.approved c.guardians k+1:Nat):Int)) rfl (AF (CI (AC (?_))))))))))
    refine AB kR (AA (DC .i64 ((k:Nat):Int) (1:Int) (((k+1:Nat):Int)) rfl rfl (FO oM oM) (AA (AE (vI ((k+1:Nat):Int)) rfl (AF (AC (?_)))))))
    exact ⟨_,oM,(k+1),Bl0,oM,rfl,⟨_,AX _ ⟨rfl,rfl,(by exact congrArg (Value.int _) (by ((rw [RV oM,if_pos aS])))),rfl,rfl,(by rfl),rfl,trivial⟩⟩,s3453,h_r,hp3438,hl3442⟩
   ·have hp3459:(r.approved.contains (c.guardians[k]!))=false:=by simpa using hc3457
    refine AU (CI (AC (?_)))
    refine AB kR (AA (DC .i64 ((k:Nat):Int) (1:Int) (((k+1:Nat):Int)) rfl rfl (FO oM oM) (AA (AE (vI ((k+1:Nat):Int)) rfl (AF (AC (?_)))))))
    exact ⟨_,oM,(k+1),Bl0,oM,rfl,⟨_,AX _ ⟨rfl,rfl,(by exact congrArg (Value.int _) (by ((rw [RV oM,if_neg (by rw [Bool.not_eq_true];assumption)];try rfl)))),rfl,rfl,(by rfl),rfl,trivial⟩⟩,s3453,h_r,hp3438,hl3442⟩
  ·have hp3460:(c.guardians.length:Int)≤((k:Nat):Int):=by simpa using hc3443
   obtain rfl:k=c.guardians.length:=by omega
   refine DE (CC (CC (CY (AC (?_)))))
   refine AG (?_)
   refine AB kR (AA (AE (vI ((HR r.approved c.guardians c.guardians.length:Nat):Int)) rfl (AA (BM 1 NI (c.threshold) rfl hp3438 (fun _ _ _ h=>HH h) fun a3461 hp3462=>(AA (CE U3_ rfl rfl hp3462 (AA (KI .i64 ((HR r.approved c.guardians c.guardians.length:Nat):Int) c.threshold rfl rfl (AA (AD (vO (decide (c.threshold≤((HR r.approved c.guardians c.guardians.length:Nat):Int)))) rfl (AF (AC (?_)))))))))))))
   refine AP (AZ rfl (CS rfl rfl rfl) (?_))
   have e:(LD c r)=(decide (c.threshold≤((HR r.approved c.guardians c.guardians.length:Nat):Int))):=rfl
   exact ⟨_,rfl,sl0.keep,(by exact congrArg vO e.symm)⟩
open Go.Fw Go.RowKit
set_option maxHeartbeats 4000000 in
set_option maxRecDepth 100000 in
theorem VZ {O:List Nat} (a:UInt8) (b:UInt8) (w:World) (hO:∀ b∈O,b<w.heap.size):CF Try.prog 93 [vB a,vB b] w (fun v _=>v=vB (BZ a b)):= by
 have s0:St w O w []:=St.start hO
 refine BQ 46 Try.func93 rfl rfl oT (fun F0=>?_)
 refine AG (?_)
 refine AB kR (AA (AD (vB (0:UInt8)) rfl (AF (AC (?_)))))
 refine AG (?_)
 refine AB kR (AA (CX [vB (0:UInt8),vB (0:UInt8),vB (0:UInt8),vB (0:UInt8),vB (0:UInt8),vB (0:UInt8),vB (0:UInt8),vB (0:UInt8)] z_134 rfl s0 fun b91 w92 e97 s93 m94 k95 bx96=>(?_)))
 clear e97
 have bx96:GQ w92 b91 134 ((List.replicate 8 (0:UInt8)).map vB):=bx96
 refine AF (AC (?_))
 refine AG (?_)
 refine AB kR (AA (AE (vB a) rfl (AA (NL U134_ IJ .i64 (0:Int) 0 rfl rfl rfl oM (BY (CK (vB a) rfl rfl rfl IJ (by repeat (constructor)) bx96 (by rw [List.length_map,show (List.replicate 8 (0:UInt8)).length=8 from by simp [GE]];omega) s93 fun w98 s99 m100 k101 bx102=>(?_)))))))
 rw [arr_set] at bx102
 refine AF (AC (?_))
 refine AG (?_)
 refine AG (?_)
 refine AB kR (AA (AD (vI 1) rfl (AF (AC (?_)))))
 refine BR (?_)
 refine DH (fun mI FI wI=>∃ (k:Nat) (B:List Nat),0<k∧k≤8∧mI=8 - k∧(∃ F1,FI=FT F1 [(1,vB b),(4,vB (0:UInt8)),(5,vP (some ⟨b91,0,none⟩)),(6,vI ((k:Nat):Int)),(46,undef)])∧St w O wI B∧GQ wI b91 134 ((DV a k).map vB)∧b91∈B) (8 - (1)) ?_ ?_
 ·exact ⟨(1),(b91 :: []),oM,oM,rfl,⟨_,AX _ ⟨rfl,rfl,rfl,(by rfl),rfl,trivial⟩⟩,s99,(by rw [show DV a (1)=(List.replicate 8 (0:UInt8)).set 0 a from by rfl];exact bx102),(by (repeat (exact List.mem_cons_self)))⟩
 ·intro ml0 F wl0 hI
  obtain ⟨k,Bl0,hr0_0,hr0_1,hm0,⟨Fl0,rfl⟩,sl0,hbx_0_b91,hin_b91⟩:=hI
  refine AG (?_)
  refine AG (?_)
  refine AB kR (AA (AE (vI ((k:Nat):Int)) rfl (AA (DW .i64 ((k:Nat):Int) (8:Int) rfl rfl (AF (AC (?_)))))))
  refine AO (decide (((k:Nat):Int)<(8:Int))) rfl rfl (fun hc103=>?_) (fun hc103=>?_)
  ·have hp104:((k:Nat):Int)<(8:Int):=by simpa using hc103
   refine AU (AC (?_))
   refine AG (?_)
   refine BR (?_)
   refine AG (?_)
   refine AB kR (AA (AE (vI ((k:Nat):Int)) rfl (AA (HW .i64 ((k:Nat):Int) (1:Int) (((k - 1:Nat):Int)) rfl rfl (FO oM oM) (AA (NL U134_ IJ .i64 ((k - 1:Nat):Int) (k - 1) rfl rfl rfl oM (AA (BI U5_ rfl (vB (DV a k)[k - 1]!) rfl hbx_0_b91 (arr_get (by rw [show (DV a k).length=8 from by simp [GE]];omega)) (AA (AD (vB ((DV a k)[k - 1]!)) rfl (AF (AC (?_)))))))))))))
   refine AG (?_)
   refine AB kR (AA (AE (vI ((k:Nat):Int)) rfl (AA (AE (vB ((DV a k)[k - 1]!)) rfl (AA (o_shl8 .u64 ((DV a k)[k - 1]!) 1 oM rfl rfl (AA (NL U134_ IJ .i64 ((k:Nat):Int) k rfl rfl rfl oM (BY (CK (vB (((DV a k)[k - 1]!) <<< UInt8.ofNat 1)) rfl rfl rfl IJ (by repeat (assumption)) hbx_0_b91 (by rw [List.length_map,show (DV a k).length=8 from by simp [GE]];omega) sl0 fun w105 s106 m107 k108 bx109=>(?_)))))))))))
   rw [arr_set] at bx109
   refine AF (AC (?_))
   refine AG (?_)
   refine AB kR (AA (AE (vB ((DV a k)[k - 1]!)) rfl (AA (KI .u8 (((DV a k)[k - 1]!).toNat:Int) ((128:UInt8).toNat:Int) rfl rfl (AF (AC (?_)))))))
   refine AO (decide (((128:UInt8).toNat:Int)≤(((DV a k)[k - 1]!).toNat:Int))) rfl rfl (fun hc110=>?_) (fun hc110=>?_)
   ·have hp111:((128:UInt8).toNat:Int)≤(((DV a k)[k - 1]!).toNat:Int):=by simpa using hc110
    refine AB kR (AA (AE (vI ((k:Nat):Int)) rfl (AA (NL U134_ IJ .i64 ((k:Nat):Int) k rfl rfl rfl oM (AA (BI U5_ rfl (vB ((DV a k).set k (((DV a k)[k - 1]!) <<< UInt8.ofNat 1))[k]!) rfl bx109 (arr_get (by rw [show ((DV a k).set k (((DV a k)[k - 1]!) <<< UInt8.ofNat 1)).length=8 from by simp [GE]];omega)) (AA (NQ (((DV a k).set k (((DV a k)[k - 1]!) <<< UInt8.ofNat 1))[k]!) (27:UInt8) rfl rfl (AA (NL U134_ IJ .i64 ((k:Nat):Int) k rfl rfl rfl oM (BY (CK (vB ((((DV a k).set k (((DV a k)[k - 1]!) <<< UInt8.ofNat 1))[k]!) ^^^ (27:UInt8))) rfl rfl rfl IJ (by repeat (assumption)) bx109 (by rw [List.length_map,show ((DV a k).set k (((DV a k)[k - 1]!) <<< UInt8.ofNat 1)).length=8 from by simp [GE]];omega) s106 fun w112 s113 m114 k115 bx116=>(?_)))))))))))))
    rw [arr_set] at bx116
    refine AF (CI (AC (?_)))
    refine AB kR (AA (AE (vI ((k:Nat):Int)) rfl (AA (DC .i64 ((k:Nat):Int) (1:Int) (((k+1:Nat):Int)) rfl rfl (FO oM oM) (AA (AD (vI ((k+1:Nat):Int)) rfl (AF (AC (?_)))))))))
    exact ⟨_,oM,(k+1),Bl0,oM,oM,rfl,⟨_,AX _ ⟨rfl,rfl,rfl,(by rfl),rfl,trivial⟩⟩,s113,(by rw [show DV a (k+1)=((DV a k).set k (((DV a k)[k - 1]!) <<< UInt8.ofNat 1)).set k ((((DV a k).set k (((DV a k)[k - 1]!) <<< UInt8.ofNat 1))[k]!) ^^^ (27:UInt8)) from by symm;exact xrow_hi a k oM oM aS];exact bx116),aS⟩
   ·have hp117:(((DV a k)[k - 1]!).toNat:Int)<((128:UInt8).toNat:Int):=by simpa using hc110
    refine AU (CI (AC (?_)))
    refine AB kR (AA (AE (vI ((k:Nat):Int)) rfl (AA (DC .i64 ((k:Nat):Int) (1:Int) (((k+1:Nat):Int)) rfl rfl (FO oM oM) (AA (AD (vI ((k+1:Nat):Int)) rfl (AF (AC (?_)))))))))
    exact ⟨_,oM,(k+1),Bl0,oM,oM,rfl,⟨_,AX _ ⟨rfl,rfl,rfl,(by rfl),rfl,trivial⟩⟩,s106,(by rw [show DV a (k+1)=(DV a k).set k (((DV a k)[k - 1]!) <<< UInt8.ofNat 1) from by symm;exact xrow_lo a k oM oM aS];exact bx109),aS⟩
  ·have hp118:(8:Int)≤((k:Nat):Int):=by simpa using hc103
   obtain rfl:k=8:=by omega
   refine DE (CC (CC (CY (AC (?_)))))
   refine AG (?_)
   refine AG (?_)
   refine AB kR (AA (BN (vs:=(DV a 8).map vB) U134_ rfl (by rw [List.length_map,show (DV a 8).length=8 from by simp [GE]];exact s_134) rfl hbx_0_b91 (by rw [List.drop_zero,List.take_length]) (AA (AE (vI 0) rfl (AF (AC (?_)))))))
   refine BR (?_)
   refine DH (fun mI FI wI=>∃ (i:Nat),i≤8∧mI=8 - i∧(∃ F1,FI=FT F1 [(1,vB b),(4,vB (gm a b i)),(31,vA ((DV a 8).map vB).toArray),(32,vI ((i:Nat):Int)),(46,undef)])∧wl0=wI) (8 - (0)) ?_ ?_
   ·exact ⟨(0),oM,rfl,⟨_,AX _ ⟨rfl,(congrArg vB (by rfl)),rfl,(by rfl),rfl,trivial⟩⟩,rfl⟩
   ·rintro ml1 F wl1 ⟨i,hr1_0,hm1,⟨Fl1,rfl⟩,rfl⟩
    refine AG (?_)
    refine AB kR (AA (DW .i64 ((i:Nat):Int) (8:Int) rfl rfl (AF (AC (?_)))))
    refine AG (?_)
    refine AO (decide (((i:Nat):Int)<(8:Int))) rfl rfl (fun hc119=>?_) (fun hc119=>?_)
    ·have hp120:((i:Nat):Int)<(8:Int):=by simpa using hc119
     refine AU (AC (?_))
     refine AG (?_)
     refine BR (?_)
     refine AG (?_)
     refine AB kR (AA (AE (vI ((i:Nat):Int)) rfl (AA (o_indexV (cs:=(DV a 8).map vB) U134_ IJ U5_ rfl .i64 ((i:Nat):Int) i (vB (DV a 8)[i]!) rfl rfl rfl oM (arr_at (by rw [show (DV a 8).length=8 from by simp [GE]];omega)) (AA (AD (vI ((i:Nat):Int)) rfl (AA (AD (vB ((DV a 8)[i]!)) rfl (AF (AC (?_)))))))))))
     refine AG (?_)
     refine AB kR (AA (AE (vB b) rfl (AA (AE (vI ((i:Nat):Int)) rfl (AA (o_shr8 .i64 b i oM rfl rfl (AA (o_and8 (b >>> UInt8.ofNat i) (1:UInt8) rfl rfl (AA (o_eql8 ((b >>> UInt8.ofNat i) &&& (1:UInt8)) (1:UInt8) rfl rfl (AF (AC (?_)))))))))))))
     refine AO (((b >>> UInt8.ofNat i) &&& (1:UInt8)) == (1:UInt8)) rfl rfl (fun hc121=>?_) (fun hc121=>?_)
     ·have hp122:(b >>> UInt8.ofNat i) &&& (1:UInt8)=(1:UInt8):=by simpa using hc121
      refine AB kR (AA (AE (vB (gm a b i)) rfl (AA (AE (vB ((DV a 8)[i]!)) rfl (AA (NQ (gm a b i) ((DV a 8)[i]!) rfl rfl (AA (AD (vB ((gm a b i) ^^^ ((DV a 8)[i]!))) rfl (AF (CI (AC (?_))))))))))))
      refine AB kR (AA (DC .i64 ((i:Nat):Int) (1:Int) (((i+1:Nat):Int)) rfl rfl (FO oM oM) (AA (AE (vI ((i+1:Nat):Int)) rfl (AF (AC (?_)))))))
      exact ⟨_,oM,(i+1),oM,rfl,⟨_,AX _ ⟨rfl,(congrArg vB (by (rw [xrow_at a 8 i oM oM];exact (gm_yes a b i aS).symm))),rfl,(by rfl),rfl,trivial⟩⟩,rfl⟩
     ·have hp123:(b >>> UInt8.ofNat i) &&& (1:UInt8)≠(1:UInt8):=by simpa using hc121
      refine AU (CI (AC (?_)))
      refine AB kR (AA (DC .i64 ((i:Nat):Int) (1:Int) (((i+1:Nat):Int)) rfl rfl (FO oM oM) (AA (AE (vI ((i+1:Nat):Int)) rfl (AF (AC (?_)))))))
      exact ⟨_,oM,(i+1),oM,rfl,⟨_,AX _ ⟨rfl,(congrArg vB (by exact (gm_no a b i aS).symm)),rfl,(by rfl),rfl,trivial⟩⟩,rfl⟩
    ·have hp124:(8:Int)≤((i:Nat):Int):=by simpa using hc119
     obtain rfl:i=8:=by omega
     refine DE (CC (CC (CY (AC (?_)))))
     refine AG (?_)
     refine AB kR (AA (AE (vB (gm a b 8)) rfl (AA (AD (vB (gm a b 8)) rfl (AF (AC (?_)))))))
     refine AP (AZ rfl (CS rfl rfl rfl) (?_))
     have e:(BZ a b)=(gm a b 8):=rfl
     exact ⟨_,rfl,sl0.keep,by rw [e];exact rfl⟩
open Go.Fw Go.RowKit
set_option maxHeartbeats 4000000 in
set_option maxRecDepth 100000 in
theorem c_eval {O:List Nat} (l_v:Value) (l:List UInt8) (x:UInt8) (w:World) (h_l:BG Enc.u8 w O l_v l) (hO:∀ b∈O,b<w.heap.size):CF Try.prog 51 [l_v,vB x] w (fun v _=>v=vB (EG l x)):= by
 have lim_l:=h_l.len_le
 have h_l:BG Enc.u8 w ([]++O) l_v l:=h_l
 have s0:St w O w []:=St.start hO
 refine BQ 22 Try.func51 rfl rfl oT (fun F0=>?_)
 refine AG (?_)
 refine AB kR (AA (AD (vB (0:UInt8)) rfl (AF (AC (?_)))))
 refine AG (?_)
 refine AG (?_)
 refine AB kR (AA (AE (l_v) rfl (AA (CG U23_ rfl h_l (AA (HW .i64 (l.length:Int) (1:Int) ((l.length:Int) - (1:Int)) rfl rfl (FO oM oM) (AA (AD (vI ((l.length:Int) - (1:Int))) rfl (AF (AC (?_)))))))))))
 refine BR (?_)
 refine DH (fun mI FI wI=>∃ (k:Nat) (B:List Nat),k≤l.length∧mI=k∧(∃ F1,FI=FT F1 [(0,l_v),(1,vB x),(4,vB (EG (l.drop k) x)),(5,vI ((k:Int) - 1)),(22,undef)])∧St w O wI B∧BG Enc.u8 wI (B++O) (l_v) (l)) ((l.length)) ?_ ?_
 ·exact ⟨(l.length),[],oM,rfl,⟨_,AX _ ⟨rfl,rfl,(congrArg vB (by rw [List.drop_length];rfl)),(by rfl),rfl,trivial⟩⟩,s0,h_l⟩
 ·intro ml0 F wl0 hI
  clear h_l
  obtain ⟨k,Bl0,hr0_0,hm0,⟨Fl0,rfl⟩,sl0,h_l⟩:=hI
  refine AG (?_)
  refine AG (?_)
  refine AB kR (AA (AE (vI ((k:Int) - 1)) rfl (AA (KI .i64 ((k:Int) - 1) (0:Int) rfl rfl (AF (AC (?_)))))))
  refine AO (decide ((0:Int)≤(k:Int) - 1)) rfl rfl (fun hc125=>?_) (fun hc125=>?_)
  ·have hp126:(0:Int)≤(k:Int) - 1:=by simpa using hc125
   obtain ⟨q,rfl⟩:∃ q,k=q+1:=⟨k - 1,by omega⟩
   rw [show ((q+1:Nat):Int) - 1=((q:Nat):Int) from by omega]
   refine AU (AC (?_))
   refine AG (?_)
   refine BR (?_)
   refine cw_draw' 7 _ _ [DF (vB (EG (l.drop (q+1)) x)),DF (vB x),DF (vB (BZ (EG (l.drop (q+1)) x) x)),fun (vT:Value) (wT:World)=>BG Enc.u8 wT (Bl0++O) vT (l),DF (vI ((q:Nat):Int)),fun (vT:Value) (wT:World)=>∃ aT,vT = .pointer (some aT)∧PT Enc.u8 wT (Bl0++O) (.pointer (some aT)) (l[q]!),DF (vB (l[q]!))] kR kR kR kR rfl rfl ⟨kI,kI,kI,fun _ _ _ h k=>h.mv (Mv.of_keep k),kI,fun _ _ _ ⟨a,e,h⟩ k=>⟨a,e,h.mv (Mv.of_keep k)⟩,kI,trivial⟩ ⟨?_,?_,?_,?_,?_,?_,?_,trivial⟩ ?_
   ·intro F1 w1 k1 hf hd
    obtain ⟨F2,rfl⟩:=AL (F:=F1) [(4,vB (EG (l.drop (q+1)) x))] ⟨hf 4 kR,trivial⟩
    exact AH rfl ((AE (vB (EG (l.drop (q+1)) x)) rfl (⟨(Keep.refl _ _),rfl⟩)))
   ·intro F1 w1 k1 hf hd
    obtain ⟨F2,rfl⟩:=AL (F:=F1) [(1,vB x)] ⟨hf 1 kR,trivial⟩
    exact AH rfl ((AE (vB x) rfl (⟨(Keep.refl _ _),rfl⟩)))
   ·intro F1 w1 k1 hf hd
    have k0:=(Keep.drew [] wl0).trans k1
    have s1:=sl0.call k0
    obtain ⟨F2,rfl⟩:=AL (F:=F1) [(13,vB (EG (l.drop (q+1)) x)),(14,vB x)] ⟨hd 0 13 kR,hd 1 14 kR,trivial⟩
    refine AH rfl ((BB (vs:=[vB (EG (l.drop (q+1)) x),vB x]) LR (VZ (O:=Bl0++O) (EG (l.drop (q+1)) x) x w1 s1.lt) rfl s1 fun v127 w128 s129 m130 k131 r132=>(?_)))
    obtain rfl:=r132
    exact ⟨k131,rfl⟩
   ·intro F1 w1 k1 hf hd
    have k0:=(Keep.drew [] wl0).trans k1
    have m1:Mv Bl0 wl0 Bl0 w1:=Mv.of_keep k0
    have h_l:=h_l.mv m1
    obtain ⟨F2,rfl⟩:=AL (F:=F1) [(0,l_v)] ⟨hf 0 kR,trivial⟩
    exact AH rfl ((AE (l_v) rfl (⟨(Keep.refl _ _),h_l⟩)))
   ·intro F1 w1 k1 hf hd
    obtain ⟨F2,rfl⟩:=AL (F:=F1) [(5,vI ((q:Nat):Int))] ⟨hf 5 kR,trivial⟩
    exact AH rfl ((AE (vI ((q:Nat):Int)) rfl (⟨(Keep.refl _ _),rfl⟩)))
   ·intro F1 w1 k1 hf hd
    obtain ⟨v133,e135,hl134⟩:∃ v,F1 16=v∧BG Enc.u8 w1 (Bl0++O) v (l):=⟨_,rfl,hd 3 16 kR⟩
    have:=hl134.len_le
    obtain ⟨F2,rfl⟩:=AL (F:=F1) [(16,v133),(17,vI ((q:Nat):Int))] ⟨e135,hd 4 17 kR,trivial⟩
    exact AH rfl ((DI U23_ IJ .i64 ((q:Nat):Int) q rfl rfl rfl hl134 oM fun a136 hp137=>(⟨(Keep.refl _ _),⟨a136,rfl,hp137⟩⟩)))
   ·intro F1 w1 k1 hf hd
    obtain ⟨a138,e140,hp139⟩:∃ aX_,F1 18 = .pointer (some aX_)∧PT Enc.u8 w1 (Bl0++O) (.pointer (some aX_)) (l[q]!):=hd 5 18 kR
    obtain ⟨F2,rfl⟩:=AL (F:=F1) [(18,vP (some a138))] ⟨e140,trivial⟩
    exact AH rfl ((HJ U5_ rfl rfl hp139 (⟨(Keep.refl _ _),rfl⟩)))
   intro F142 w143 k141 hT144 hF145
   have s146:=sl0.call k141
   have m147:Mv Bl0 wl0 Bl0 w143:=Mv.of_keep k141
   have h_l:=h_l.mv m147
   obtain ⟨F2,rfl⟩:=AL (F:=F142) [(0,l_v),(1,vB x),(4,vB (EG (l.drop (q+1)) x)),(5,vI ((q:Nat):Int)),(22,undef),(15,vB (BZ (EG (l.drop (q+1)) x) x)),(19,vB (l[q]!))] ⟨hF145 0 kR,hF145 1 kR,hF145 4 kR,hF145 5 kR,hF145 22 kR,hT144 2 15 kR (by decide),hT144 6 19 kR (by decide),trivial⟩
   clear hT144 hF145
   refine AA (NQ (BZ (EG (l.drop (q+1)) x) x) (l[q]!) rfl rfl (AA (AD (vB ((BZ (EG (l.drop (q+1)) x) x) ^^^ (l[q]!))) rfl (AF (CI (AC (?_)))))))
   refine AB kR (AA (AE (vI ((q:Nat):Int)) rfl (AA (HW .i64 ((q:Nat):Int) (1:Int) (((q:Nat):Int) - (1:Int)) rfl rfl (FO oM oM) (AA (AD (vI (((q:Nat):Int) - (1:Int))) rfl (AF (AC (?_)))))))))
   exact ⟨_,oM,(q),Bl0,oM,rfl,⟨_,AX _ ⟨rfl,rfl,(congrArg vB (by rw [pev_drop (l:=l) (k:=q) oM])),(by rfl),rfl,trivial⟩⟩,s146,h_l⟩
  ·have hp150:(k:Int) - 1<(0:Int):=by (have e:=hc125;simp at e;omega)
   obtain rfl:k=0:=by omega
   refine DE (CC (CC (CY (AC (?_)))))
   refine AG (?_)
   refine AB kR (AA (AE (vB (EG (l.drop 0) x)) rfl (AA (AD (vB (EG (l.drop 0) x)) rfl (AF (AC (?_)))))))
   refine AP (AZ rfl (CS rfl rfl rfl) (?_))
   have e:(EG l x)=(EG (l.drop 0) x):=rfl
   exact ⟨_,rfl,sl0.keep,by rw [e];exact rfl⟩
set_option maxHeartbeats 4000000 in
set_option maxRecDepth 100000 in
theorem c_powers {O:List Nat} (a:UInt8) (w:World) (hO:∀ b∈O,b<w.heap.size):CF Try.prog 108 [vB a] w (fun v w'=>∃ (a0_0:Addr),v = .func (.func 117) #[] #[.pointer (some a0_0)]∧PT Enc.u8 w' (O) (.pointer (some a0_0)) (a)):= by
 have s0:St w O w []:=St.start hO
 refine BQ 4 Try.func108 rfl rfl oT (fun F0=>?_)
 refine AG (?_)
 refine AB kR (AA (DO (E:=Enc.u8) (vB a) ([vB a]) a rfl rfl rfl s0 fun a151 w152 s153 m154 k155 hp156=>(?_)))
 refine AA (AD (Value.nilFunc) rfl (AF (AC (?_))))
 refine AG (?_)
 refine AB kR (AA (DD (first:=[]) (captured:=[.tmp 1]) [] [vP (some a151)] rfl rfl (AA (AD (vN (.func 117) #[] #[vP (some a151)]) rfl (AF (AC (?_)))))))
 refine AP (AZ rfl (CS rfl rfl rfl) (?_))
 exact ⟨_,rfl,s153.keep,⟨_,rfl,(hp156.sub (fun b hb=>.inl (List.mem_append_right _ hb)))⟩⟩
set_option maxHeartbeats 4000000 in
set_option maxRecDepth 100000 in
theorem it_powers (w:World) (L:List Nat) (a_a:Addr) (a:UInt8) (h_a0:PT Enc.u8 w L (.pointer (some a_a)) a) (hL:∀ b∈L,b<w.heap.size) (l:Nat) (N:Nat) (I:Nat→World→Prop) (J:World→Prop) (hI:∀ i w',I i w'→Keep L w w') (hst:∀ i w1 w2,I i w1→Keep [] w1 w2→I i w2) (hN:∀ i w',I i w'→i≤N) (hNb:N<4611686018427387904) (hR:∀ i w',I i w'→KT Try.prog l [vI ((i:Nat):Int),vB (JD a i)] w' (fun v w2=>(v = .bool true∧I (i+1) w2)∨(v = .bool false∧J w2))) (h0:I 0 w):Calls Try.prog 117 ([]++[vN (.yield l) #[] #[]]++[vP (some a_a)]).toArray w (fun e w'=>(∃ v,e = .returned v)∧(J w'∨∃ i,False∧I i w')):= by
 have h_a0:PT Enc.u8 w (L++[]) (.pointer (some a_a)) a:=by rw [List.append_nil];exact h_a0
 refine CH 14 Try.func117 rfl rfl oT (fun F0=>?_)
 have hk_w:=hI _ _ h0
 have h_a:PT Enc.u8 w ([]++L) (.pointer (some a_a)) a:=by have h:=h_a0.mv (Mv.same hk_w);rw [List.append_nil] at h;exact h
 have s157:St w L w []:=St.start (fun b hb=>Nat.lt_of_lt_of_le (hL b hb) hk_w.size)
 refine AG (?_)
 refine AB kR (AA (AD (vB (1:UInt8)) rfl (AF (AC (?_)))))
 refine AG (?_)
 refine AB kR (AA (AD (vI 0) rfl (AF (AC (?_)))))
 refine BR (?_)
 refine DH (fun mI FI wI=>∃ k:Nat,mI=N+1 - k∧(∃ F1,FI=FT F1 [(0,vN (.yield l) #[] #[]),(1,vP (some a_a)),(3,vB (JD a k)),(4,vI ((k:Nat):Int)),(14,undef)])∧I (k) wI) (N+1 - (0)) ?_ ?_
 ·exact ⟨(0),rfl,⟨_,AX _ ⟨rfl,rfl,(congrArg vB (by rfl)),(by rfl),rfl,trivial⟩⟩,h0⟩
 ·rintro ml F wl ⟨k,rfl,⟨Fl,rfl⟩,hIl⟩
  have hk_wl:=hI _ _ hIl
  have h_a:PT Enc.u8 wl ([]++L) (.pointer (some a_a)) a:=by have h:=h_a0.mv (Mv.same hk_wl);rw [List.append_nil] at h;exact h
  have s158:St wl L wl []:=St.start (fun b hb=>Nat.lt_of_lt_of_le (hL b hb) hk_wl.size)
  have hkN:=hN _ _ hIl
  refine AG (?_)
  refine AG (?_)
  refine AB kR (AA (AE (vN (.yield l) #[] #[]) rfl (AA (AE (vI ((k:Nat):Int)) rfl (AA (AE (vB (JD a k)) rfl (wl_y l [vI ((k:Nat):Int),vB (JD a k)] rfl rfl ?_)))))))
  refine KT.mono (hR k _ hIl) (fun v w2 h=>?_)
  obtain ⟨rfl,hI2⟩|⟨rfl,hJ⟩:=h
  ·have hk_w2:=hI _ _ hI2
   have h_a:PT Enc.u8 w2 ([]++L) (.pointer (some a_a)) a:=by have h:=h_a0.mv (Mv.same hk_w2);rw [List.append_nil] at h;exact h
   have s159:St w2 L w2 []:=St.start (fun b hb=>Nat.lt_of_lt_of_le (hL b hb) hk_w2.size)
   refine AF (AC (?_))
   refine AO true rfl rfl (fun _=>?_) (fun h=>by cases h)
   refine AU (AC (?_))
   refine AG (?_)
   refine BR (?_)
   refine AB kR (AA (AE (vB (JD a k)) rfl (AA (HJ U5_ rfl rfl h_a (AA (BB (vs:=[vB (JD a k),vB a]) LR (VZ (O:=[]++L) (JD a k) a w2 s159.lt) rfl s159 fun v160 w161 s162 m163 k164 r165=>(?_)))))))
   obtain rfl:=r165
   have hI2:=hst _ _ _ hI2 k164
   refine AA (AD (vB (BZ (JD a k) a)) rfl (AF (CI (AC (?_)))))
   refine AB kR (AA (AE (vI ((k:Nat):Int)) rfl (AA (DC .i64 ((k:Nat):Int) (1:Int) (((k+1:Nat):Int)) rfl rfl (FO oM oM) (AA (AD (vI ((k+1:Nat):Int)) rfl (AF (AC (?_)))))))))
   exact ⟨_,oM,(k+1),rfl,⟨_,AX _ ⟨rfl,rfl,(congrArg vB (by rfl)),(by rfl),rfl,trivial⟩⟩,hI2⟩
  ·refine AF (AC (?_))
   refine AO false rfl rfl (fun h=>by cases h) (fun _=>?_)
   refine DE (CC (CC (CY (FP rfl (IH rfl) (?_)))))
   exact ⟨⟨_,rfl⟩, .inl hJ⟩
set_option maxHeartbeats 4000000 in
set_option maxRecDepth 100000 in
theorem c_inverse {O:List Nat} (a:UInt8) (w:World) (hO:∀ b∈O,b<w.heap.size):CF Try.prog 94 [vB a] w (fun v _=>v=vB (FZ a)):= by
 have s0:St w O w []:=St.start hO
 refine UN 12 Try.func94 rfl rfl oT (fun F0=>?_)
 refine AG (?_)
 refine AB kR (AA (CX [vB (0:UInt8)] z_5 rfl s0 fun b166 w167 e172 s168 m169 k170 bx171=>(?_)))
 clear e172
 refine AF (AC (?_))
 refine AG (?_)
 refine AG (?_)
 refine AB kR (AA (AE (vB a) rfl (AA (BB (vs:=[vB a]) enter_108 (c_powers (O:=(b166 :: [])++O) a w167 s168.lt) rfl s168 fun v173 w174 s175 m176 k177 r178=>(?_)))))
 obtain ⟨a179,rfl,hp180⟩:=r178
 have bx171:=bx171.keep k177 (by simp)
 refine AF (AC (?_))
 refine BR (?_)
 refine cw_range (fs:=[]) (lb:=[vP (some a179)]) rfl rfl enter_117 rfl (fun l_0 D_0 w181 R_0 _ hR_0 hD183 hl184 k182 oD_0 oL_0=>?_)
 have ne187:FH b166 D_0∧FH b166 l_0:=by show b166≠D_0∧b166≠l_0;have:=bx171.lt;omega
 have s185:=s175.adopt2 k182 hD183 oM oD_0.lt oL_0.lt
 have m186:Mv (b166 :: []) w174 (l_0 :: D_0 :: (b166 :: [])) w181:=Mv.adopt2 k182 hD183 oM
 have hp180:=hp180.mv m186
 have bx171:=bx171.keep k182 (by simp)
 have hDl_0:FH D_0 l_0:=by show D_0≠l_0;omega
 clear hl184
 have since188:Mv (l_0 :: D_0 :: (b166 :: [])) w181 (l_0 :: D_0 :: (b166 :: [])) w181:=Mv.refl _ _
 have hL_0:=s185.lt
 refine Calls.mono (it_powers w181 ((l_0 :: D_0 :: (b166 :: []))++O) a179 a hp180 hL_0 l_0 (254) (fun (i:Nat) wI=>∃ (B:List Nat),i≤254∧St w O wI B∧PT Enc.u8 wI (B++O) (.pointer (some a179)) (a)∧Ob wI D_0 (.deferred (some []))∧Ob wI l_0 (R_0 .ready none)∧b166∈B∧D_0∈B∧l_0∈B∧Mv (l_0 :: D_0 :: (b166 :: [])) w181 B wI∧GQ wI b166 5 [vB (0:UInt8)]) (fun wI=>(∃ (i:Nat) (B:List Nat),St w O wI B∧PT Enc.u8 wI (B++O) (.pointer (some a179)) (a)∧Ob wI D_0 (.deferred (some []))∧Ob wI l_0 (R_0 .done (some (.ret)))∧b166∈B∧D_0∈B∧l_0∈B∧Mv (l_0 :: D_0 :: (b166 :: [])) w181 B wI∧GQ wI b166 5 [vB (FZ a)])) ?_ ?_ ?_ oM ?_ ?_) (fun e w2 hJ=>⟨hJ.1,?_⟩)
 ·intro i w' hI
  clear hp180 oD_0 oL_0 since188
  obtain ⟨Bl,hq0_0,sl,hp180,oD_0,oL_0,hin_b166,hin_D_0,hin_l_0,since188,hbx_b166⟩:=hI
  exact Keep.mono since188.keep (fun b hb=>.inl (List.mem_append_left _ hb))
 ·intro i wa wb hI kk
  clear hp180 oD_0 oL_0 since188
  obtain ⟨Bl,hq0_0,sl,hp180,oD_0,oL_0,hin_b166,hin_D_0,hin_l_0,since188,hbx_b166⟩:=hI
  have sl2:=sl.call kk
  have ml2:Mv Bl wa Bl wb:=Mv.of_keep kk
  have hp180:=hp180.mv ml2
  have hbx_b166:=hbx_b166.keep kk (by simp)
  have oD_0:=oD_0.keep kk (by simp)
  have oL_0:=oL_0.keep kk (by simp)
  have since188:=since188.trans ml2
  exact ⟨Bl,hq0_0,sl2,hp180,oD_0,oL_0,(by repeat (assumption)),(by repeat (assumption)),(by repeat (assumption)),since188,hbx_b166⟩
 ·intro i w' hI
  clear hp180 oD_0 oL_0 since188
  obtain ⟨Bl,hq0_0,sl,hp180,oD_0,oL_0,hin_b166,hin_D_0,hin_l_0,since188,hbx_b166⟩:=hI
  omega
 ·intro i wr hI
  clear hp180 oD_0 oL_0 since188
  obtain ⟨Bl,hq0_0,sl,hp180,oD_0,oL_0,hin_b166,hin_D_0,hin_l_0,since188,hbx_b166⟩:=hI
  refine VM hR_0 oL_0 rfl (by decide) ?_
  refine AG (?_)
  refine AB kR (AA (AD (vI ((i:Nat):Int)) rfl (AF (AC (?_)))))
  refine AB kR (AA (AD (vB (JD a i)) rfl (AF (AC (?_)))))
  refine ⟨oL_0,fun w189 k190 ox193=>?_⟩
  have s191:=sl.keepB k190 (by repeat (assumption))
  have m192:Mv Bl wr Bl w189:=Mv.keepB k190 (by repeat (assumption))
  have hp180:=hp180.mv m192
  have hbx_b166:=hbx_b166.keep k190 (BH ne187.2)
  have oD_0:=oD_0.keep k190 (BH hDl_0)
  have since188:=since188.trans m192
  refine BR (?_)
  refine AG (?_)
  refine AB kR (AA (AE (vI ((i:Nat):Int)) rfl (AA (EI .i64 ((i:Nat):Int) (254:Int) rfl rfl (AF (AC (?_)))))))
  refine AO (((i:Nat):Int) == (254:Int)) rfl rfl (fun hc194=>?_) (fun hc194=>?_)
  ·have hp195:((i:Nat):Int)=(254:Int):=by simpa using hc194
   refine AG (?_)
   refine AB kR (AA (AE (vB (JD a i)) rfl (BY (CK (vB (JD a i)) rfl rfl rfl IJ (by repeat (assumption)) hbx_b166 oT s191 fun w196 s197 m198 k199 bx200=>(?_)))))
   have hp180:=hp180.mv m198
   have oD_0:=oD_0.keep k199 (BH (Ne.symm ne187.1))
   have ox193:=ox193.keep k199 (BH (Ne.symm ne187.2))
   have since188:=since188.trans m198
   refine AF (AC (?_))
   refine AP (CB (round_r ox193 (fun w201 k202 ox205=>?_)))
   have s203:=s197.keepB k202 (by repeat (assumption))
   have m204:Mv Bl w196 Bl w201:=Mv.keepB k202 (by repeat (assumption))
   have hp180:=hp180.mv m204
   have bx200:=bx200.keep k202 (BH ne187.2)
   have oD_0:=oD_0.keep k202 (BH hDl_0)
   have since188:=since188.trans m204
   have oL_0:=ox205
   refine .inr ⟨rfl,?_⟩
   exact ⟨i,Bl,s203,hp180,oD_0,oL_0,(by repeat (assumption)),(by repeat (assumption)),(by repeat (assumption)),since188,(by rw [show ([vB (FZ a)]:List Value)=[vB (JD a i)] from by rw [ginv_at a i oM]];exact bx200)⟩
  ·have hp206:((i:Nat):Int)≠(254:Int):=by simpa using hc194
   refine AU (CI (round_n ox193 (fun w207 k208 ox211=>?_)))
   have s209:=s191.keepB k208 (by repeat (assumption))
   have m210:Mv Bl w189 Bl w207:=Mv.keepB k208 (by repeat (assumption))
   have hp180:=hp180.mv m210
   have hbx_b166:=hbx_b166.keep k208 (BH ne187.2)
   have oD_0:=oD_0.keep k208 (BH hDl_0)
   have since188:=since188.trans m210
   have oL_0:=ox211
   refine .inl ⟨rfl,?_⟩
   exact ⟨Bl,oM,s209,hp180,oD_0,oL_0,(by repeat (assumption)),(by repeat (assumption)),(by repeat (assumption)),since188,hbx_b166⟩
 ·exact ⟨(l_0 :: D_0 :: (b166 :: [])),oM,s185,hp180,oD_0,oL_0,(by repeat (constructor)),(by repeat (constructor)),(by repeat (constructor)),since188,bx171⟩
 obtain ⟨_,hJ⟩:=hJ
 clear hp180 oD_0 oL_0 since188
 rcases hJ with (hJ)|⟨i,hi,hJ⟩
 ·obtain ⟨i,Bl,sl,hp180,oD_0,oL_0,hin_b166,hin_D_0,hin_l_0,since188,hbx_b166⟩:=hJ
  refine ⟨.done,(some (.ret)),by simp,oL_0,fun w212 k213=>?_⟩
  have s214:=sl.keepB k213 (by repeat (assumption))
  have hbx_b166:=hbx_b166.keep k213 (BH ne187.2)
  have oD_0:=oD_0.keep k213 (BH hDl_0)
  refine AP (CB (AR (?_)))
  refine endM_rm rfl oD_0 (fun w216 k217=>?_)
  have s218:=s214.keepB k217 (by repeat (assumption))
  have hbx_b166:=hbx_b166.keep k217 (BH ne187.1)
  refine ⟨_,resc rfl rfl U5_ rfl rfl hbx_b166 rfl,?_⟩
  exact ⟨_,rfl,s218.keep,rfl⟩
 ·exact hi.elim
open Go.Fw Go.RowKit
set_option maxHeartbeats 4000000 in
set_option maxRecDepth 100000 in
theorem c_wrong {O:List Nat} (xs_v:Value) (xs:List UInt8) (ys_v:Value) (ys:List UInt8) (w:World) (h_xs:BG Enc.u8 w O xs_v xs) (h_ys:BG Enc.u8 w O ys_v ys) (hO:∀ b∈O,b<w.heap.size):CF Try.prog 91 [xs_v,ys_v] w (fun v _=>v = .bool (FN xs ys)):= by
 have lim_xs:=h_xs.len_le
 have h_xs:BG Enc.u8 w ([]++O) xs_v xs:=h_xs
 have lim_ys:=h_ys.len_le
 have h_ys:BG Enc.u8 w ([]++O) ys_v ys:=h_ys
 have s0:St w O w []:=St.start hO
 refine BQ 26 Try.func91 rfl rfl oT (fun F0=>?_)
 refine AG (?_)
 refine AB kR (AA (AD (vO false) rfl (AF (AC (?_)))))
 refine AG (?_)
 refine AB kR (AA (VW s0 fun b417 w418 e423 s419 m420 k421 bx422=>(?_)))
 clear e423
 have h_xs:=h_xs.mv m420
 have h_ys:=h_ys.mv m420
 refine AA (CX [.map none] z_132 rfl s419 fun b424 w425 e430 s426 m427 k428 bx429=>(?_))
 have ne431:FH b417 b424:=by show b417≠b424;have:=bx422.lt;omega
 clear e430
 have h_xs:=h_xs.mv m427
 have h_ys:=h_ys.mv m427
 have bx422:=bx422.keep k428 (by simp)
 refine BY (CK (Value.map (some b417)) rfl rfl rfl s_132 (by repeat (constructor)) bx429 oT s426 fun w432 s433 m434 k435 bx436=>(?_))
 have h_xs:=h_xs.mv m434
 have h_ys:=h_ys.mv m434
 have bx422:=bx422.keep k435 (BH ne431)
 refine AF (AC (?_))
 refine AG (?_)
 refine AB kR (AA (DD (first:=[]) (captured:=[.tmp 5]) [] [vP (some ⟨b424,0,none⟩)] rfl rfl (AA (AD (vN (.func 107) #[] #[vP (some ⟨b424,0,none⟩)]) rfl (AF (AC (?_)))))))
 refine AG (?_)
 refine AG (?_)
 refine AB kR (AA (AE (xs_v) rfl (AA (CG U23_ rfl h_xs (AA (AE (ys_v) rfl (AA (CG U23_ rfl h_ys (AA (CV .i64 (xs.length:Int) (ys.length:Int) rfl rfl (AF (AC (?_)))))))))))))
 refine AO ((xs.length:Int) != (ys.length:Int)) rfl rfl (fun hc437=>?_) (fun hc437=>?_)
 ·have hp438:(xs.length:Int)≠(ys.length:Int):=by simpa using hc437
  refine AG (?_)
  refine AB kR (AA (AD (vO true) rfl (AF (AC (?_)))))
  refine AP (AR (AZ rfl (CS rfl rfl rfl) (?_)))
  have e:(FN xs ys)=true:=by simp [FN, *]
  exact ⟨_,rfl,s433.keep,(by exact congrArg vO e.symm)⟩
 ·have hp439:(xs.length:Int)=(ys.length:Int):=by simpa using hc437
  refine AU (AC (?_))
  refine AG (?_)
  refine AG (?_)
  refine AB kR (AA (AE (xs_v) rfl (AA (CG U23_ rfl h_xs (AA (AE (vI 0) rfl (AF (AC (?_)))))))))
  refine BR (?_)
  refine DH (fun mI FI wI=>∃ (k:Nat) (B:List Nat),k≤xs.length∧twice xs xs.length=FG (fun k=>if (xs.take k).contains xs[k]! then some true else none) false k (xs.length - k)∧mI=xs.length - k∧(∃ F1,FI=FT F1 [(6,vN (.func 107) #[] #[vP (some ⟨b424,0,none⟩)]),(16,xs_v),(17,vI (xs.length:Int)),(18,vI ((k:Nat):Int)),(26,undef)])∧St w O wI B∧BG Enc.u8 wI (B++O) (xs_v) (xs)∧UW wI b417 (xs.take k)∧b417∈B∧GQ wI b424 132 [Value.map (some b417)]∧b424∈B) (xs.length - (0)) ?_ ?_
  ·exact ⟨(0),(b424 :: (b417 :: [])),oM,rfl,rfl,⟨_,AX _ ⟨rfl,rfl,rfl,(by rfl),rfl,trivial⟩⟩,s433,h_xs,(by rw [show xs.take (0)=[] from rfl];exact bx422),(by (repeat (first|exact List.mem_cons_self|apply List.mem_cons_of_mem))),bx436,(by (repeat (exact List.mem_cons_self)))⟩
  ·intro ml0 F wl0 hI
   clear h_xs bx436
   obtain ⟨k,Bl0,hr0_0,hr0_1,hm0,⟨Fl0,rfl⟩,sl0,h_xs,hbx_0_b417,hin_b417,bx436,hin_b424⟩:=hI
   refine AG (?_)
   refine AB kR (AA (DW .i64 ((k:Nat):Int) (xs.length:Int) rfl rfl (AF (AC (?_)))))
   refine AG (?_)
   refine AO (decide (((k:Nat):Int)<(xs.length:Int))) rfl rfl (fun hc440=>?_) (fun hc440=>?_)
   ·have hp441:((k:Nat):Int)<(xs.length:Int):=by simpa using hc440
    refine AU (AC (?_))
    refine AG (?_)
    refine BR (?_)
    refine AG (?_)
    refine AB kR (AA (DI U23_ IJ .i64 ((k:Nat):Int) k rfl rfl rfl h_xs oM fun a442 hp443=>(AA (HJ U5_ rfl rfl hp443 (AA (AD (vB (xs[k]!)) rfl (AF (AC (?_)))))))))
    refine AG (?_)
    refine AB kR (AA (AE (vN (.func 107) #[] #[vP (some ⟨b424,0,none⟩)]) rfl (AA (AE (vB (xs[k]!)) rfl (AA (o_callv [] [vP (some ⟨b424,0,none⟩)] [vB (xs[k]!)] _ enter_107 rfl rfl (CH 9 Try.func107 rfl rfl oT (fun F444=>?_)) (fun _ _ h=>h)))))))
    refine AG (?_)
    refine AB kR (AA (AD (vO false) rfl (AF (AC (?_)))))
    refine AG (?_)
    refine AG (?_)
    refine AB kR (AA (BI U132_ rfl (Value.map (some b417)) rfl bx436 rfl (AA (AE (vB (xs[k]!)) rfl (AA (o_lookupB U132_ U5_ z_4 rfl rfl hbx_0_b417 (AF (AC (?_)))))))))
    refine AO ((xs.take k).contains (xs[k]!)) rfl rfl (fun hc445=>?_) (fun hc445=>?_)
    ·have hp446:((xs.take k).contains (xs[k]!))=true:=by simpa using hc445
     refine AG (?_)
     refine AB kR (AA (AD (vO true) rfl (AF (AC (?_)))))
     refine AP (AR (AZ rfl (CS rfl rfl rfl) (Exists.intro _ (And.intro rfl (?_)))))
     refine AF (AC (?_))
     refine AO true rfl rfl (fun _=>?_) (fun h=>by cases h)
     refine AG (?_)
     refine AB kR (AA (AD (vO true) rfl (AF (AC (?_)))))
     refine AP (CB (AR (AR (CB (AR (AZ rfl (CS rfl rfl rfl) (?_)))))))
     have e:(FN xs ys)=true:=by simp only [FN];rw [if_neg (by simpa using by assumption),hr0_1];exact DQ oM (by simp_all)
     exact ⟨_,rfl,sl0.keep,(by exact congrArg vO e.symm)⟩
    ·have hp447:((xs.take k).contains (xs[k]!))=false:=by simpa using hc445
     refine AU (AC (?_))
     refine AG (?_)
     refine AB kR (AA (BI U132_ rfl (Value.map (some b417)) rfl bx436 rfl (AA (AE (vB (xs[k]!)) rfl (BY (o_updateB U132_ U5_ rfl rfl rfl aS hbx_0_b417 (by repeat (assumption)) sl0 fun w448 s449 m450 k451 bx452=>(?_)))))))
     have h_xs:=h_xs.mv m450
     have bx436:=bx436.keep k451 (BH (Ne.symm ne431))
     refine AF (AC (?_))
     refine AG (?_)
     refine AB kR (AA (AD (vO false) rfl (AF (AC (?_)))))
     refine AP (AZ rfl (CS rfl rfl rfl) (Exists.intro _ (And.intro rfl (?_))))
     refine AF (AC (?_))
     refine AO false rfl rfl (fun h=>by cases h) (fun _=>?_)
     refine AU (CI (AC (?_)))
     refine AB kR (AA (DC .i64 ((k:Nat):Int) (1:Int) (((k+1:Nat):Int)) rfl rfl (FO oM oM) (AA (AE (vI ((k+1:Nat):Int)) rfl (AF (AC (?_)))))))
     exact ⟨_,oM,(k+1),Bl0,oM,(hr0_1.trans (GJ oM (by simp_all))),rfl,⟨_,AX _ ⟨rfl,rfl,rfl,(by rfl),rfl,trivial⟩⟩,s449,h_xs,(by rw [show xs.take (k+1)=(xs.take k)++[xs[k]!] from take_snoc oM];exact bx452),aS,bx436,aS⟩
   ·have hp453:(xs.length:Int)≤((k:Nat):Int):=by simpa using hc440
    refine DE (CC (CC (CY (AC (?_)))))
    refine AG (?_)
    refine AB kR (AA (AD (vO false) rfl (AF (AC (?_)))))
    refine AP (AZ rfl (CS rfl rfl rfl) (?_))
    have e:(FN xs ys)=false:=by simp only [FN];rw [if_neg (by simpa using by assumption),hr0_1];exact HD oM
    exact ⟨_,rfl,sl0.keep,(by exact congrArg vO e.symm)⟩
set_option maxHeartbeats 4000000 in
set_option maxRecDepth 100000 in
theorem c_zeros {O:List Nat} (xs_v:Value) (xs:List UInt8) (w:World) (h_xs:BG Enc.u8 w O xs_v xs) (hpre0:xs.length<1000000) (hO:∀ b∈O,b<w.heap.size):CF Try.prog 92 [xs_v] w (fun v w'=>∃ (x0:Value),v=x0∧BG Enc.u8 w' (O) x0 (BF xs)):= by
 have lim_xs:=h_xs.len_le
 have h_xs:BG Enc.u8 w ([]++O) xs_v xs:=h_xs
 have s0:St w O w []:=St.start hO
 refine BQ 53 Try.func92 rfl rfl oT (fun F0=>?_)
 refine AG (?_)
 refine AB kR (AA (AD (nS) rfl (AF (AC (?_)))))
 refine AG (?_)
 refine AB kR (AA (AE (xs_v) rfl (AA (CG U23_ rfl h_xs (AA (DC .i64 (xs.length:Int) (1:Int) (((xs.length+1:Nat):Int)) rfl rfl (FO oM oM) (AA (TS (E:=Enc.u8) U23_ i_5 [vB (0:UInt8)] rfl rfl (by decide) (0:UInt8) (fun _ _=>rfl) .i64 .i64 (1:Int) ((xs.length+1:Nat):Int) 1 (xs.length+1) rfl rfl rfl rfl oM oM (by simp only [maxLen];omega) s0 fun v458 b460 w454 e461 hb462 s455 m456 k457 hl459=>(?_)))))))))
 have hB463:∀ b,v458.ownBlock=some b→b∈(b460 :: []):=fun b hb=>by rw [hb462] at hb;cases hb;simp
 clear e461 hb462
 have h_xs:=h_xs.mv m456
 refine AA (AD (v458) rfl (AF (AC (?_))))
 refine AG (?_)
 refine AB kR (AA (AE (v458) rfl (AA (ER U23_ IJ .i64 (0:Int) 0 rfl rfl rfl hl459 (by (simp only [List.length_set,List.length_append,List.length_cons,List.length_nil,List.length_replicate,GB,EV];omega)) fun b464 hb465=>(BY (KM (1:UInt8) IJ rfl rfl rfl hl459 hb465 (hB463 _ hb465) (by (simp only [List.length_set,List.length_append,List.length_cons,List.length_nil,List.length_replicate,GB,EV];omega)) rfl s455 fun w466 s467 m468 k469 bx470=>(?_)))))))
 have h_xs:=h_xs.mv m468
 refine AF (AC (?_))
 refine AG (?_)
 refine AG (?_)
 refine AB kR (AA (AE (xs_v) rfl (AA (CG U23_ rfl h_xs (AA (AE (vI 0) rfl (AF (AC (?_)))))))))
 refine BR (?_)
 refine DH (fun mI FI wI=>∃ (i:Nat) (vo0_3:Value) (B:List Nat),i≤xs.length∧mI=xs.length - i∧(∃ F1,FI=FT F1 [(3,vo0_3),(13,xs_v),(14,vI (xs.length:Int)),(15,vI ((i:Nat):Int)),(53,undef)])∧St w O wI B∧EJ Enc.u8 5 w.heap.size (B++O) wI vo0_3 (GW xs i)∧(∀ b,vo0_3.ownBlock=some b→b∈B)∧BG Enc.u8 wI (B++O) (xs_v) (xs)) (xs.length - (0)) ?_ ?_
 ·exact ⟨(0),v458,(b460 :: []),oM,rfl,⟨_,AX _ ⟨rfl,rfl,rfl,(by rfl),rfl,trivial⟩⟩,s467,(by rw [show GW xs (0)=(List.replicate 1 (0:UInt8)).set 0 (1:UInt8) from rfl];exact bx470),hB463,h_xs⟩
 ·intro ml0 F wl0 hI
  clear h_xs
  obtain ⟨i,vo0_3,Bl0,hr0_0,hm0,⟨Fl0,rfl⟩,sl0,ho0_3,hB0_3,h_xs⟩:=hI
  refine AG (?_)
  refine AB kR (AA (DW .i64 ((i:Nat):Int) (xs.length:Int) rfl rfl (AF (AC (?_)))))
  refine AG (?_)
  refine AO (decide (((i:Nat):Int)<(xs.length:Int))) rfl rfl (fun hc471=>?_) (fun hc471=>?_)
  ·have hp472:((i:Nat):Int)<(xs.length:Int):=by simpa using hc471
   refine AU (AC (?_))
   refine AG (?_)
   refine BR (?_)
   refine AG (?_)
   refine AB kR (AA (DI U23_ IJ .i64 ((i:Nat):Int) i rfl rfl rfl h_xs oM fun a473 hp474=>(AA (HJ U5_ rfl rfl hp474 (AA (AD (vB (xs[i]!)) rfl (AF (AC (?_)))))))))
   refine AG (?_)
   refine AB kR (AA (AE (vo0_3) rfl (AA (IK (E:=Enc.u8) (xs:=[.const (vB (0:UInt8))]) U23_ IJ z_5 (by decide) [vB (0:UInt8)] [[vB (0:UInt8)]] [(0:UInt8)] rfl rfl rfl (Parts.cons rfl rfl (Parts.nil _ _ _)) oT sl0 fun v479 w475 s476 m477 k478 hl480=>(?_)))))
   have ho0_3:=ho0_3.mv m477 k478 (by simp)
   have h_xs:=h_xs.mv m477
   have:=hl480.len_le
   refine AA (DG (E:=Enc.u8) (l:=GW xs i) (m:=[(0:UInt8)]) U23_ i_5 rfl (by decide) rfl rfl ho0_3 hl480 (fun _ hb=>.inl hb) hB0_3 (by simp [EV];omega) (by simp [EV,maxLen];omega) s476 fun v485 w481 B487 hB488 at489 sub490 s482 m483 k484 ho486=>(?_))
   have h_xs:=h_xs.mv m483
   refine AA (AD (v485) rfl (AF (AC (?_))))
   refine AG (?_)
   refine AB kR (AA (AE (v485) rfl (AA (RN U23_ rfl ho486 (AA (HW .i64 (((GW xs i)++([(0:UInt8)])).length:Int) (1:Int) (((i+1:Nat):Int)) rfl rfl (FO oM (by simp [EV])) (AA (AD (vI ((i+1:Nat):Int)) rfl (AF (AC (?_)))))))))))
   refine BR (?_)
   have hzl:(GW xs i++[0]).length=i+2:=by simp [EV]
   refine DH (fun mI FI wI=>∃ (k:Nat) (vo1_3:Value) (B:List Nat),k≤i+2∧mI=k∧(∃ F1,FI=FT F1 [(3,vo1_3),(5,vB (xs[i]!)),(6,vI ((k:Int) - 1)),(13,xs_v),(14,vI (xs.length:Int)),(15,vI ((i:Nat):Int)),(53,undef)])∧St w O wI B∧EJ Enc.u8 5 w.heap.size (B++O) wI vo1_3 (IN (GW xs i++[0]) xs[i]! (i+2 - k))∧(∀ b,vo1_3.ownBlock=some b→b∈B)∧BG Enc.u8 wI (B++O) (xs_v) (xs)) ((i+2)) ?_ ?_
   ·exact ⟨(i+2),v485,B487,oM,rfl,⟨_,AX _ ⟨rfl,rfl,(by exact congrArg (Value.int _) oM),rfl,rfl,rfl,rfl,trivial⟩⟩,s482,(by rw [show IN (GW xs i++[0]) xs[i]! (i+2 - (i+2))=(GW xs i)++([(0:UInt8)]) from by rw [Nat.sub_self];rfl];exact ho486),hB488,h_xs⟩
   ·intro ml1 F wl1 hI
    clear h_xs
    obtain ⟨k,vo1_3,Bl1,hr1_0,hm1,⟨Fl1,rfl⟩,sl1,ho1_3,hB1_3,h_xs⟩:=hI
    refine AG (?_)
    refine AG (?_)
    refine AB kR (AA (AE (vI ((k:Int) - 1)) rfl (AA (KI .i64 ((k:Int) - 1) (0:Int) rfl rfl (AF (AC (?_)))))))
    refine AO (decide ((0:Int)≤(k:Int) - 1)) rfl rfl (fun hc491=>?_) (fun hc491=>?_)
    ·have hp492:(0:Int)≤(k:Int) - 1:=by simpa using hc491
     obtain ⟨q,rfl⟩:∃ q,k=q+1:=⟨k - 1,by omega⟩
     rw [show ((q+1:Nat):Int) - 1=((q:Nat):Int) from by omega]
     refine AU (AC (?_))
     refine AG (?_)
     refine BR (?_)
     refine AG (?_)
     refine AB kR (AA (AE (vo1_3) rfl (AA (AE (vI ((q:Nat):Int)) rfl (AA (AE (vo1_3) rfl (AA (AE (vI ((q:Nat):Int)) rfl (AA (ER U23_ IJ .i64 ((q:Nat):Int) q rfl rfl rfl ho1_3 (by (simp only [List.length_set,List.length_append,List.length_cons,List.length_nil,List.length_replicate,GB,EV];omega)) fun b493 hb494=>(AA (LM U5_ rfl rfl ho1_3 hb494 (by (simp only [List.length_set,List.length_append,List.length_cons,List.length_nil,List.length_replicate,GB,EV];omega)) (AA (AE (vB (xs[i]!)) rfl (AA (BB (vs:=[vB ((IN (GW xs i++[0]) xs[i]! (i+2 - (q+1)))[q]!),vB (xs[i]!)]) LR (VZ (O:=Bl1++O) ((IN (GW xs i++[0]) xs[i]! (i+2 - (q+1)))[q]!) (xs[i]!) wl1 sl1.lt) rfl sl1 fun v495 w496 s497 m498 k499 r500=>(?_)))))))))))))))))
     obtain rfl:=r500
     have ho1_3:=ho1_3.mv m498 k499 (by simp)
     have h_xs:=h_xs.mv m498
     refine AA (ER U23_ IJ .i64 ((q:Nat):Int) q rfl rfl rfl ho1_3 (by (simp only [List.length_set,List.length_append,List.length_cons,List.length_nil,List.length_replicate,GB,EV];omega)) fun b501 hb502=>(BY (KM (BZ ((IN (GW xs i++[0]) xs[i]! (i+2 - (q+1)))[q]!) (xs[i]!)) IJ rfl rfl rfl ho1_3 hb502 (hB1_3 _ hb502) (by (simp only [List.length_set,List.length_append,List.length_cons,List.length_nil,List.length_replicate,GB,EV];omega)) rfl s497 fun w503 s504 m505 k506 bx507=>(?_))))
     have h_xs:=h_xs.mv m505
     refine AF (AC (?_))
     refine AG (?_)
     refine AB kR (AA (AE (vI ((q:Nat):Int)) rfl (AA (FW .i64 ((q:Nat):Int) (0:Int) rfl rfl (AF (AC (?_)))))))
     refine AO (decide ((0:Int)<((q:Nat):Int))) rfl rfl (fun hc508=>?_) (fun hc508=>?_)
     ·have hp509:(0:Int)<((q:Nat):Int):=by simpa using hc508
      refine cw_draw' 9 _ _ [DF vo1_3,DF (vI ((q:Nat):Int)),fun (vT:Value) (wT:World)=>∃ bT,vT = .pointer (some ⟨bT,q*1,none⟩)∧vo1_3.ownBlock=some bT,DF (vB (((IN (GW xs i++[0]) xs[i]! (i+2 - (q+1))).set q (BZ ((IN (GW xs i++[0]) xs[i]! (i+2 - (q+1)))[q]!) (xs[i]!)))[q]!)),DF vo1_3,DF (vI ((q:Nat):Int)),DF (vI ((q - 1:Nat):Int)),fun (vT:Value) (wT:World)=>∃ bT,vT = .pointer (some ⟨bT,(q - 1)*1,none⟩)∧vo1_3.ownBlock=some bT,DF (vB (((IN (GW xs i++[0]) xs[i]! (i+2 - (q+1))).set q (BZ ((IN (GW xs i++[0]) xs[i]! (i+2 - (q+1)))[q]!) (xs[i]!)))[q - 1]!))] kR kR kR kR rfl rfl ⟨kI,kI,fun _ _ _ h _=>h,kI,kI,kI,kI,fun _ _ _ h _=>h,kI,trivial⟩ ⟨?_,?_,?_,?_,?_,?_,?_,?_,?_,trivial⟩ ?_
      ·intro F1 w1 k1 hf hd
       obtain ⟨F2,rfl⟩:=AL (F:=F1) [(3,vo1_3)] ⟨hf 3 kR,trivial⟩
       exact AH rfl ((AE (vo1_3) rfl (⟨(Keep.refl _ _),rfl⟩)))
      ·intro F1 w1 k1 hf hd
       obtain ⟨F2,rfl⟩:=AL (F:=F1) [(6,vI ((q:Nat):Int))] ⟨hf 6 kR,trivial⟩
       exact AH rfl ((AE (vI ((q:Nat):Int)) rfl (⟨(Keep.refl _ _),rfl⟩)))
      ·intro F1 w1 k1 hf hd
       have k0:=(Keep.drew [] w503).trans k1
       have m1:Mv Bl1 w503 Bl1 w1:=Mv.of_keep k0
       have bx507:=bx507.mv m1 k0 (by simp)
       obtain ⟨F2,rfl⟩:=AL (F:=F1) [(40,vo1_3),(41,vI ((q:Nat):Int))] ⟨hd 0 40 kR,hd 1 41 kR,trivial⟩
       exact AH rfl ((ER U23_ IJ .i64 ((q:Nat):Int) q rfl rfl rfl bx507 (by (simp only [List.length_set,List.length_append,List.length_cons,List.length_nil,List.length_replicate,GB,EV];omega)) fun b510 hb511=>(⟨(Keep.refl _ _),⟨_,rfl,hb511⟩⟩)))
      ·intro F1 w1 k1 hf hd
       have k0:=(Keep.drew [] w503).trans k1
       have m1:Mv Bl1 w503 Bl1 w1:=Mv.of_keep k0
       have bx507:=bx507.mv m1 k0 (by simp)
       obtain ⟨b512,e514,hb513⟩:∃ b,F1 42 = .pointer (some ⟨b,q*1,none⟩)∧vo1_3.ownBlock=some b:=hd 2 42 kR
       obtain ⟨F2,rfl⟩:=AL (F:=F1) [(42,vP (some ⟨b512,q*1,none⟩))] ⟨e514,trivial⟩
       exact AH rfl ((LM U5_ rfl rfl bx507 hb513 (by (simp only [List.length_set,List.length_append,List.length_cons,List.length_nil,List.length_replicate,GB,EV];omega)) (⟨(Keep.refl _ _),rfl⟩)))
      ·intro F1 w1 k1 hf hd
       obtain ⟨F2,rfl⟩:=AL (F:=F1) [(3,vo1_3)] ⟨hf 3 kR,trivial⟩
       exact AH rfl ((AE (vo1_3) rfl (⟨(Keep.refl _ _),rfl⟩)))
      ·intro F1 w1 k1 hf hd
       obtain ⟨F2,rfl⟩:=AL (F:=F1) [(6,vI ((q:Nat):Int))] ⟨hf 6 kR,trivial⟩
       exact AH rfl ((AE (vI ((q:Nat):Int)) rfl (⟨(Keep.refl _ _),rfl⟩)))
      ·intro F1 w1 k1 hf hd
       obtain ⟨F2,rfl⟩:=AL (F:=F1) [(45,vI ((q:Nat):Int))] ⟨hd 5 45 kR,trivial⟩
       exact AH rfl ((HW .i64 ((q:Nat):Int) (1:Int) (((q - 1:Nat):Int)) rfl rfl (FO oM oM) (⟨(Keep.refl _ _),rfl⟩)))
      ·intro F1 w1 k1 hf hd
       have k0:=(Keep.drew [] w503).trans k1
       have m1:Mv Bl1 w503 Bl1 w1:=Mv.of_keep k0
       have bx507:=bx507.mv m1 k0 (by simp)
       obtain ⟨F2,rfl⟩:=AL (F:=F1) [(44,vo1_3),(46,vI ((q - 1:Nat):Int))] ⟨hd 4 44 kR,hd 6 46 kR,trivial⟩
       exact AH rfl ((ER U23_ IJ .i64 ((q - 1:Nat):Int) (q - 1) rfl rfl rfl bx507 (by (simp only [List.length_set,List.length_append,List.length_cons,List.length_nil,List.length_replicate,GB,EV];omega)) fun b515 hb516=>(⟨(Keep.refl _ _),⟨_,rfl,hb516⟩⟩)))
      ·intro F1 w1 k1 hf hd
       have k0:=(Keep.drew [] w503).trans k1
       have m1:Mv Bl1 w503 Bl1 w1:=Mv.of_keep k0
       have bx507:=bx507.mv m1 k0 (by simp)
       obtain ⟨b517,e519,hb518⟩:∃ b,F1 47 = .pointer (some ⟨b,(q - 1)*1,none⟩)∧vo1_3.ownBlock=some b:=hd 7 47 kR
       obtain ⟨F2,rfl⟩:=AL (F:=F1) [(47,vP (some ⟨b517,(q - 1)*1,none⟩))] ⟨e519,trivial⟩
       exact AH rfl ((LM U5_ rfl rfl bx507 hb518 (by (simp only [List.length_set,List.length_append,List.length_cons,List.length_nil,List.length_replicate,GB,EV];omega)) (⟨(Keep.refl _ _),rfl⟩)))
      intro F521 w522 k520 hT523 hF524
      have s525:=s504.call k520
      have m526:Mv Bl1 w503 Bl1 w522:=Mv.of_keep k520
      have bx507:=bx507.mv m526 k520 (by simp)
      have h_xs:=h_xs.mv m526
      obtain ⟨F2,rfl⟩:=AL (F:=F521) [(3,vo1_3),(5,vB (xs[i]!)),(6,vI ((q:Nat):Int)),(13,xs_v),(14,vI (xs.length:Int)),(15,vI ((i:Nat):Int)),(53,undef),(40,vo1_3),(41,vI ((q:Nat):Int)),(43,vB (((IN (GW xs i++[0]) xs[i]! (i+2 - (q+1))).set q (BZ ((IN (GW xs i++[0]) xs[i]! (i+2 - (q+1)))[q]!) (xs[i]!)))[q]!)),(48,vB (((IN (GW xs i++[0]) xs[i]! (i+2 - (q+1))).set q (BZ ((IN (GW xs i++[0]) xs[i]! (i+2 - (q+1)))[q]!) (xs[i]!)))[q - 1]!))] ⟨hF524 3 kR,hF524 5 kR,hF524 6 kR,hF524 13 kR,hF524 14 kR,hF524 15 kR,hF524 53 kR,hT523 0 40 kR (by decide),hT523 1 41 kR (by decide),hT523 3 43 kR (by decide),hT523 8 48 kR (by decide),trivial⟩
      clear hT523 hF524
      refine AA (NQ (((IN (GW xs i++[0]) xs[i]! (i+2 - (q+1))).set q (BZ ((IN (GW xs i++[0]) xs[i]! (i+2 - (q+1)))[q]!) (xs[i]!)))[q]!) (((IN (GW xs i++[0]) xs[i]! (i+2 - (q+1))).set q (BZ ((IN (GW xs i++[0]) xs[i]! (i+2 - (q+1)))[q]!) (xs[i]!)))[q - 1]!) rfl rfl (AA (ER U23_ IJ .i64 ((q:Nat):Int) q rfl rfl rfl bx507 (by (simp only [List.length_set,List.length_append,List.length_cons,List.length_nil,List.length_replicate,GB,EV];omega)) fun b529 hb530=>(BY (KM ((((IN (GW xs i++[0]) xs[i]! (i+2 - (q+1))).set q (BZ ((IN (GW xs i++[0]) xs[i]! (i+2 - (q+1)))[q]!) (xs[i]!)))[q]!) ^^^ (((IN (GW xs i++[0]) xs[i]! (i+2 - (q+1))).set q (BZ ((IN (GW xs i++[0]) xs[i]! (i+2 - (q+1)))[q]!) (xs[i]!)))[q - 1]!)) IJ rfl rfl rfl bx507 hb530 (hB1_3 _ hb530) (by (simp only [List.length_set,List.length_append,List.length_cons,List.length_nil,List.length_replicate,GB,EV];omega)) rfl s525 fun w531 s532 m533 k534 bx535=>(?_))))))
      have h_xs:=h_xs.mv m533
      refine AF (CI (AC (?_)))
      refine AB kR (AA (AE (vI ((q:Nat):Int)) rfl (AA (HW .i64 ((q:Nat):Int) (1:Int) (((q:Nat):Int) - (1:Int)) rfl rfl (FO oM oM) (AA (AD (vI (((q:Nat):Int) - (1:Int))) rfl (AF (AC (?_)))))))))
      exact ⟨_,oM,(q),vo1_3,Bl1,oM,rfl,⟨_,AX _ ⟨rfl,rfl,(by rfl),rfl,rfl,rfl,rfl,trivial⟩⟩,s532,(by rw [show IN (GW xs i++[0]) xs[i]! (i+2 - (q))=((IN (GW xs i++[0]) xs[i]! (i+2 - (q+1))).set q (BZ ((IN (GW xs i++[0]) xs[i]! (i+2 - (q+1)))[q]!) (xs[i]!))).set q ((((IN (GW xs i++[0]) xs[i]! (i+2 - (q+1))).set q (BZ ((IN (GW xs i++[0]) xs[i]! (i+2 - (q+1)))[q]!) (xs[i]!)))[q]!) ^^^ (((IN (GW xs i++[0]) xs[i]! (i+2 - (q+1))).set q (BZ ((IN (GW xs i++[0]) xs[i]! (i+2 - (q+1)))[q]!) (xs[i]!)))[q - 1]!)) from by exact zrS_pos hzl.symm oM aS];exact bx535),hB1_3,h_xs⟩
     ·have hp536:((q:Nat):Int)≤(0:Int):=by simpa using hc508
      refine AU (CI (AC (?_)))
      refine AB kR (AA (AE (vI ((q:Nat):Int)) rfl (AA (HW .i64 ((q:Nat):Int) (1:Int) (((q:Nat):Int) - (1:Int)) rfl rfl (FO oM oM) (AA (AD (vI (((q:Nat):Int) - (1:Int))) rfl (AF (AC (?_)))))))))
      exact ⟨_,oM,(q),vo1_3,Bl1,oM,rfl,⟨_,AX _ ⟨rfl,rfl,(by rfl),rfl,rfl,rfl,rfl,trivial⟩⟩,s504,(by rw [show IN (GW xs i++[0]) xs[i]! (i+2 - (q))=(IN (GW xs i++[0]) xs[i]! (i+2 - (q+1))).set q (BZ ((IN (GW xs i++[0]) xs[i]! (i+2 - (q+1)))[q]!) (xs[i]!)) from by exact zrS_zero hzl.symm oM aS];exact bx507),hB1_3,h_xs⟩
    ·have hp537:(k:Int) - 1<(0:Int):=by (have e:=hc491;simp at e;omega)
     obtain rfl:k=0:=by omega
     refine DE (CC (CC (CY (CI (AC (?_))))))
     refine AB kR (AA (DC .i64 ((i:Nat):Int) (1:Int) (((i+1:Nat):Int)) rfl rfl (FO oM oM) (AA (AE (vI ((i+1:Nat):Int)) rfl (AF (AC (?_)))))))
     exact ⟨_,oM,(i+1),vo1_3,Bl1,oM,rfl,⟨_,AX _ ⟨rfl,rfl,rfl,(by rfl),rfl,trivial⟩⟩,sl1,(by rw [show GW xs (i+1)=IN (GW xs i++[0]) xs[i]! (i+2 - 0) from by rw [Nat.sub_zero,GW,hzl]];exact ho1_3),hB1_3,h_xs⟩
  ·have hp538:(xs.length:Int)≤((i:Nat):Int):=by simpa using hc471
   obtain rfl:i=xs.length:=by omega
   refine DE (CC (CC (CY (AC (?_)))))
   refine AG (?_)
   refine AB kR (AA (AE (vo0_3) rfl (AA (AD (vo0_3) rfl (AF (AC (?_)))))))
   refine AP (AZ rfl (CS rfl rfl rfl) (?_))
   have e:(BF xs)=(GW xs xs.length):=rfl
   exact ⟨_,rfl,sl0.keep,by rw [e];exact ⟨vo0_3,rfl,ho0_3.pub sl0⟩⟩
open Go.Fw Go.RowKit
set_option maxHeartbeats 4000000 in
set_option maxRecDepth 100000 in
theorem c_coeff {O:List Nat} (xs_v:Value) (xs:List UInt8) (ys_v:Value) (ys:List UInt8) (w:World) (h_xs:BG Enc.u8 w O xs_v xs) (h_ys:BG Enc.u8 w O ys_v ys) (hpre0:xs.length<1000000) (hO:∀ b∈O,b<w.heap.size):CF Try.prog 43 [xs_v,ys_v] w (fun v w'=>∃ (x0:Value),v = .tuple #[x0,vI ((EL xs ys).2)]∧BG Enc.u8 w' (O) x0 ((EL xs ys).1)):= by
 have lim_xs:=h_xs.len_le
 have h_xs:BG Enc.u8 w ([]++O) xs_v xs:=h_xs
 have lim_ys:=h_ys.len_le
 have h_ys:BG Enc.u8 w ([]++O) ys_v ys:=h_ys
 have s0:St w O w []:=St.start hO
 have hzl:=FE xs
 refine BQ 81 Try.func43 rfl rfl oT (fun F0=>?_)
 refine AG (?_)
 refine AB kR (AA (AD (.slice none 0 0) rfl (AA (AD (vI 0) rfl (AF (AC (?_)))))))
 refine AG (?_)
 refine AG (?_)
 refine AB kR (AA (AE (xs_v) rfl (AA (AE (ys_v) rfl (AA (BB (vs:=[xs_v,ys_v]) enter_91 (c_wrong (O:=[]++O) xs_v xs ys_v ys w h_xs h_ys s0.lt) rfl s0 fun v539 w540 s541 m542 k543 r544=>(?_)))))))
 obtain rfl:=r544
 have h_xs:=h_xs.mv m542
 have h_ys:=h_ys.mv m542
 refine AF (AC (?_))
 refine AO (FN xs ys) rfl rfl (fun hc545=>?_) (fun hc545=>?_)
 ·have hp546:(FN xs ys)=true:=by simpa using hc545
  refine AG (?_)
  refine AB kR (AA (AD (.slice none 0 0) rfl (AA (AD (vI 1) rfl (AF (AC (?_)))))))
  refine AP (AR (AZ rfl (FF rfl rfl rfl rfl) (?_)))
  have e:(EL xs ys)=([],(1:Int)):=by simp [EL, *]
  exact ⟨_,rfl,s541.keep,by rw [e];exact ⟨.slice none 0 0,rfl,BG.nil _ _ _⟩⟩
 ·have hp547:(FN xs ys)=false:=by simpa using hc545
  have hxy:=wrongM_len (by simpa using hc545)
  refine AU (AC (?_))
  refine AG (?_)
  refine AB kR (AA (AE (xs_v) rfl (AA (CG U23_ rfl h_xs (AA (AD (vI (xs.length:Int)) rfl (AF (AC (?_)))))))))
  refine AG (?_)
  refine AB kR (AA (AE (xs_v) rfl (AA (BB (vs:=[xs_v]) enter_92 (c_zeros (O:=[]++O) xs_v xs w540 h_xs oM s541.lt) rfl s541 fun v548 w549 s550 m551 k552 r553=>(?_)))))
  obtain ⟨_,rfl,hl554⟩:=r553
  have:=hl554.len_le
  have h_xs:=h_xs.mv m551
  have h_ys:=h_ys.mv m551
  refine AA (AD (v548) rfl (AF (AC (?_))))
  refine AG (?_)
  refine AB kR (AA (AE (vI (xs.length:Int)) rfl (AA (TS (E:=Enc.u8) U23_ i_5 [vB (0:UInt8)] rfl rfl (by decide) (0:UInt8) (fun _ _=>rfl) .i64 .i64 (xs.length:Int) (xs.length:Int) xs.length xs.length rfl rfl rfl rfl oM oM (by simp only [maxLen];omega) s550 fun v559 b561 w555 e562 hb563 s556 m557 k558 hl560=>(?_)))))
  have hB564:∀ b,v559.ownBlock=some b→b∈(b561 :: []):=fun b hb=>by rw [hb563] at hb;cases hb;simp
  clear e562 hb563
  have h_xs:=h_xs.mv m557
  have h_ys:=h_ys.mv m557
  have hl554:=hl554.mv m557
  refine AA (AD (v559) rfl (AF (AC (?_))))
  refine AG (?_)
  refine AB kR (AA (AE (vI (xs.length:Int)) rfl (AA (TS (E:=Enc.u8) U23_ i_5 [vB (0:UInt8)] rfl rfl (by decide) (0:UInt8) (fun _ _=>rfl) .i64 .i64 (xs.length:Int) (xs.length:Int) xs.length xs.length rfl rfl rfl rfl oM oM (by simp only [maxLen];omega) s556 fun v569 b571 w565 e572 hb573 s566 m567 k568 hl570=>(?_)))))
  have ne574:∀ b,v559.ownBlock=some b→v569.ownBlock≠some b:=fun b hb=>by have:=(hl560.lt b hb).2;rw [hb573];intro e;cases e;omega
  have ne574':∀ b,v569.ownBlock=some b→v559.ownBlock≠some b:=fun b hb e=>ne574 b e hb
  have hB575:∀ b,v569.ownBlock=some b→b∈(b571 :: (b561 :: [])):=fun b hb=>by rw [hb573] at hb;cases hb;simp
  clear e572 hb573
  have hB564:∀ b,v559.ownBlock=some b→b∈(b571 :: (b561 :: [])):=fun b hb=>List.mem_cons_of_mem _ (hB564 b hb)
  have h_xs:=h_xs.mv m567
  have h_ys:=h_ys.mv m567
  have hl560:=hl560.mv m567 k568 (by simp)
  have hl554:=hl554.mv m567
  refine AA (AD (v569) rfl (AF (AC (?_))))
  refine AG (?_)
  refine AG (?_)
  refine AB kR (AA (AE (xs_v) rfl (AA (CG U23_ rfl h_xs (AA (AE (vI 0) rfl (AF (AC (?_)))))))))
  refine BR (?_)
  refine DH (fun mI FI wI=>∃ (i:Nat) (vo0_4:Value) (vo0_8:Value) (B:List Nat),i≤xs.length∧mI=xs.length - i∧(∃ F1,FI=FT F1 [(1,ys_v),(4,vo0_4),(6,vI (xs.length:Int)),(7,v548),(8,vo0_8),(26,xs_v),(27,vI (xs.length:Int)),(28,vI ((i:Nat):Int)),(81,undef)])∧St w O wI B∧EJ Enc.u8 5 w.heap.size (B++O) wI vo0_4 (OS (BF xs) xs ys xs.length i)∧(∀ b,vo0_4.ownBlock=some b→b∈B)∧EJ Enc.u8 5 w.heap.size (B++O) wI vo0_8 (GK (BF xs) xs xs.length i)∧(∀ b,vo0_8.ownBlock=some b→b∈B)∧BG Enc.u8 wI (B++O) (ys_v) (ys)∧BG Enc.u8 wI (B++O) (v548) (BF xs)∧BG Enc.u8 wI (B++O) (xs_v) (xs)∧(∀ b,vo0_4.ownBlock=some b→vo0_8.ownBlock≠some b)∧(∀ b,vo0_8.ownBlock=some b→vo0_4.ownBlock≠some b)) (xs.length - (0)) ?_ ?_
  ·exact ⟨(0),v559,v569,(b571 :: (b561 :: [])),oM,rfl,⟨_,AX _ ⟨rfl,rfl,rfl,rfl,rfl,rfl,rfl,(by rfl),rfl,trivial⟩⟩,s566,(by rw [show OS (BF xs) xs ys xs.length (0)=List.replicate xs.length (0:UInt8) from rfl];exact hl560),hB564,(by rw [show GK (BF xs) xs xs.length (0)=List.replicate xs.length (0:UInt8) from rfl];exact hl570),hB575,h_ys,hl554,h_xs,ne574,(fun b hb e=>ne574 b e hb)⟩
  ·intro ml0 F wl0 hI
   clear h_ys hl554 h_xs
   obtain ⟨i,vo0_4,vo0_8,Bl0,hr0_0,hm0,⟨Fl0,rfl⟩,sl0,ho0_4,hB0_4,ho0_8,hB0_8,h_ys,hl554,h_xs,nn0_4_8,nn0_8_4⟩:=hI
   refine AG (?_)
   refine AB kR (AA (DW .i64 ((i:Nat):Int) (xs.length:Int) rfl rfl (AF (AC (?_)))))
   refine AG (?_)
   refine AO (decide (((i:Nat):Int)<(xs.length:Int))) rfl rfl (fun hc576=>?_) (fun hc576=>?_)
   ·have hp577:((i:Nat):Int)<(xs.length:Int):=by simpa using hc576
    refine AU (AC (?_))
    refine AG (?_)
    refine BR (?_)
    refine AG (?_)
    refine AB kR (AA (AE (vI ((i:Nat):Int)) rfl (AA (DI U23_ IJ .i64 ((i:Nat):Int) i rfl rfl rfl h_xs oM fun a578 hp579=>(AA (HJ U5_ rfl rfl hp579 (AA (AD (vI ((i:Nat):Int)) rfl (AA (AD (vB (xs[i]!)) rfl (AF (AC (?_)))))))))))))
    refine AG (?_)
    refine AB kR (AA (AD (vB (0:UInt8)) rfl (AF (AC (?_)))))
    refine AG (?_)
    refine AG (?_)
    refine AB kR (AA (AE (vI (xs.length:Int)) rfl (AA (HW .i64 (xs.length:Int) (1:Int) ((xs.length:Int) - (1:Int)) rfl rfl (FO oM oM) (AA (AD (vI ((xs.length:Int) - (1:Int))) rfl (AF (AC (?_)))))))))
    refine BR (?_)
    refine DH (fun mI FI wI=>∃ (k:Nat) (vo1_8:Value) (B:List Nat),k≤xs.length∧mI=k∧(∃ F1,FI=FT F1 [(1,ys_v),(4,vo0_4),(6,vI (xs.length:Int)),(7,v548),(8,vo1_8),(9,vI ((i:Nat):Int)),(10,vB (xs[i]!)),(11,vB (SO (BF xs) xs[i]! xs.length (xs.length - k))),(12,vI ((k:Int) - 1)),(26,xs_v),(27,vI (xs.length:Int)),(28,vI ((i:Nat):Int)),(81,undef)])∧St w O wI B∧EJ Enc.u8 5 w.heap.size (B++O) wI vo1_8 (HA (GK (BF xs) xs xs.length i) (BF xs) xs[i]! xs.length (xs.length - k))∧(∀ b,vo1_8.ownBlock=some b→b∈B)∧BG Enc.u8 wI (B++O) (ys_v) (ys)∧EJ Enc.u8 5 w.heap.size (B++O) wI vo0_4 (OS (BF xs) xs ys xs.length i)∧(∀ b,vo0_4.ownBlock=some b→b∈B)∧BG Enc.u8 wI (B++O) (v548) (BF xs)∧BG Enc.u8 wI (B++O) (xs_v) (xs)∧(∀ b,vo1_8.ownBlock=some b→vo0_4.ownBlock≠some b)∧(∀ b,vo0_4.ownBlock=some b→vo1_8.ownBlock≠some b)) ((xs.length)) ?_ ?_
    ·exact ⟨(xs.length),vo0_8,Bl0,oM,rfl,⟨_,AX _ ⟨rfl,rfl,rfl,rfl,rfl,rfl,rfl,(congrArg vB (by rw [Nat.sub_self];rfl)),(by rfl),rfl,rfl,rfl,rfl,trivial⟩⟩,sl0,(by rw [show HA (GK (BF xs) xs xs.length i) (BF xs) xs[i]! xs.length (xs.length - (xs.length))=GK (BF xs) xs xs.length i from by rw [Nat.sub_self];rfl];exact ho0_8),hB0_8,h_ys,ho0_4,hB0_4,hl554,h_xs,nn0_8_4,nn0_4_8⟩
    ·intro ml1 F wl1 hI
     clear h_ys ho0_4 hB0_4 hl554 h_xs
     obtain ⟨k,vo1_8,Bl1,hr1_0,hm1,⟨Fl1,rfl⟩,sl1,ho1_8,hB1_8,h_ys,ho0_4,hB0_4,hl554,h_xs,no1_8_vo0_4,np1_8_vo0_4⟩:=hI
     refine AG (?_)
     refine AG (?_)
     refine AB kR (AA (AE (vI ((k:Int) - 1)) rfl (AA (KI .i64 ((k:Int) - 1) (0:Int) rfl rfl (AF (AC (?_)))))))
     refine AO (decide ((0:Int)≤(k:Int) - 1)) rfl rfl (fun hc580=>?_) (fun hc580=>?_)
     ·have hp581:(0:Int)≤(k:Int) - 1:=by simpa using hc580
      obtain ⟨q,rfl⟩:∃ q,k=q+1:=⟨k - 1,by omega⟩
      rw [show ((q+1:Nat):Int) - 1=((q:Nat):Int) from by omega]
      refine AU (AC (?_))
      refine AG (?_)
      refine BR (?_)
      refine AG (?_)
      refine cw_draw' 8 _ _ [fun (vT:Value) (wT:World)=>BG Enc.u8 wT (Bl1++O) vT (BF xs),DF (vI ((q:Nat):Int)),DF (vI ((q+1:Nat):Int)),fun (vT:Value) (wT:World)=>∃ aT,vT = .pointer (some aT)∧PT Enc.u8 wT (Bl1++O) (.pointer (some aT)) ((BF xs)[q+1]!),DF (vB ((BF xs)[q+1]!)),DF (vB (SO (BF xs) xs[i]! xs.length (xs.length - (q+1)))),DF (vB (xs[i]!)),DF (vB (BZ (SO (BF xs) xs[i]! xs.length (xs.length - (q+1))) (xs[i]!)))] kR kR kR kR rfl rfl ⟨fun _ _ _ h k=>h.mv (Mv.of_keep k),kI,kI,fun _ _ _ ⟨a,e,h⟩ k=>⟨a,e,h.mv (Mv.of_keep k)⟩,kI,kI,kI,kI,trivial⟩ ⟨?_,?_,?_,?_,?_,?_,?_,?_,trivial⟩ ?_
      ·intro F1 w1 k1 hf hd
       have k0:=(Keep.drew [] wl1).trans k1
       have m1:Mv Bl1 wl1 Bl1 w1:=Mv.of_keep k0
       have hl554:=hl554.mv m1
       obtain ⟨F2,rfl⟩:=AL (F:=F1) [(7,v548)] ⟨hf 7 kR,trivial⟩
       exact AH rfl ((AE (v548) rfl (⟨(Keep.refl _ _),hl554⟩)))
      ·intro F1 w1 k1 hf hd
       obtain ⟨F2,rfl⟩:=AL (F:=F1) [(12,vI ((q:Nat):Int))] ⟨hf 12 kR,trivial⟩
       exact AH rfl ((AE (vI ((q:Nat):Int)) rfl (⟨(Keep.refl _ _),rfl⟩)))
      ·intro F1 w1 k1 hf hd
       obtain ⟨F2,rfl⟩:=AL (F:=F1) [(40,vI ((q:Nat):Int))] ⟨hd 1 40 kR,trivial⟩
       exact AH rfl ((DC .i64 ((q:Nat):Int) (1:Int) (((q+1:Nat):Int)) rfl rfl (FO oM oM) (⟨(Keep.refl _ _),rfl⟩)))
      ·intro F1 w1 k1 hf hd
       obtain ⟨v582,e584,hl583⟩:∃ v,F1 39=v∧BG Enc.u8 w1 (Bl1++O) v (BF xs):=⟨_,rfl,hd 0 39 kR⟩
       have:=hl583.len_le
       obtain ⟨F2,rfl⟩:=AL (F:=F1) [(39,v582),(41,vI ((q+1:Nat):Int))] ⟨e584,hd 2 41 kR,trivial⟩
       exact AH rfl ((DI U23_ IJ .i64 ((q+1:Nat):Int) (q+1) rfl rfl rfl hl583 (by rw [FE];omega) fun a585 hp586=>(⟨(Keep.refl _ _),⟨a585,rfl,hp586⟩⟩)))
      ·intro F1 w1 k1 hf hd
       obtain ⟨a587,e589,hp588⟩:∃ aX_,F1 42 = .pointer (some aX_)∧PT Enc.u8 w1 (Bl1++O) (.pointer (some aX_)) ((BF xs)[q+1]!):=hd 3 42 kR
       obtain ⟨F2,rfl⟩:=AL (F:=F1) [(42,vP (some a587))] ⟨e589,trivial⟩
       exact AH rfl ((HJ U5_ rfl rfl hp588 (⟨(Keep.refl _ _),rfl⟩)))
      ·intro F1 w1 k1 hf hd
       obtain ⟨F2,rfl⟩:=AL (F:=F1) [(11,vB (SO (BF xs) xs[i]! xs.length (xs.length - (q+1))))] ⟨hf 11 kR,trivial⟩
       exact AH rfl ((AE (vB (SO (BF xs) xs[i]! xs.length (xs.length - (q+1)))) rfl (⟨(Keep.refl _ _),rfl⟩)))
      ·intro F1 w1 k1 hf hd
       obtain ⟨F2,rfl⟩:=AL (F:=F1) [(10,vB (xs[i]!))] ⟨hf 10 kR,trivial⟩
       exact AH rfl ((AE (vB (xs[i]!)) rfl (⟨(Keep.refl _ _),rfl⟩)))
      ·intro F1 w1 k1 hf hd
       have k0:=(Keep.drew [] wl1).trans k1
       have s1:=sl1.call k0
       obtain ⟨F2,rfl⟩:=AL (F:=F1) [(44,vB (SO (BF xs) xs[i]! xs.length (xs.length - (q+1)))),(45,vB (xs[i]!))] ⟨hd 5 44 kR,hd 6 45 kR,trivial⟩
       refine AH rfl ((BB (vs:=[vB (SO (BF xs) xs[i]! xs.length (xs.length - (q+1))),vB (xs[i]!)]) LR (VZ (O:=Bl1++O) (SO (BF xs) xs[i]! xs.length (xs.length - (q+1))) (xs[i]!) w1 s1.lt) rfl s1 fun v590 w591 s592 m593 k594 r595=>(?_)))
       obtain rfl:=r595
       exact ⟨k594,rfl⟩
      intro F597 w598 k596 hT599 hF600
      have s601:=sl1.call k596
      have m602:Mv Bl1 wl1 Bl1 w598:=Mv.of_keep k596
      have h_ys:=h_ys.mv m602
      have ho0_4:=ho0_4.mv m602 k596 (by simp)
      have hl554:=hl554.mv m602
      have ho1_8:=ho1_8.mv m602 k596 (by simp)
      have h_xs:=h_xs.mv m602
      obtain ⟨F2,rfl⟩:=AL (F:=F597) [(1,ys_v),(4,vo0_4),(6,vI (xs.length:Int)),(7,v548),(8,vo1_8),(9,vI ((i:Nat):Int)),(10,vB (xs[i]!)),(11,vB (SO (BF xs) xs[i]! xs.length (xs.length - (q+1)))),(12,vI ((q:Nat):Int)),(26,xs_v),(27,vI (xs.length:Int)),(28,vI ((i:Nat):Int)),(81,undef),(43,vB ((BF xs)[q+1]!)),(46,vB (BZ (SO (BF xs) xs[i]! xs.length (xs.length - (q+1))) (xs[i]!)))] ⟨hF600 1 kR,hF600 4 kR,hF600 6 kR,hF600 7 kR,hF600 8 kR,hF600 9 kR,hF600 10 kR,hF600 11 kR,hF600 12 kR,hF600 26 kR,hF600 27 kR,hF600 28 kR,hF600 81 kR,hT599 4 43 kR (by decide),hT599 7 46 kR (by decide),trivial⟩
      clear hT599 hF600
      refine AA (NQ ((BF xs)[q+1]!) (BZ (SO (BF xs) xs[i]! xs.length (xs.length - (q+1))) (xs[i]!)) rfl rfl (AA (AD (vB (((BF xs)[q+1]!) ^^^ (BZ (SO (BF xs) xs[i]! xs.length (xs.length - (q+1))) (xs[i]!)))) rfl (AF (AC (?_))))))
      refine AB kR (AA (AE (vo1_8) rfl (AA (AE (vI ((q:Nat):Int)) rfl (AA (AE (vB (((BF xs)[q+1]!) ^^^ (BZ (SO (BF xs) xs[i]! xs.length (xs.length - (q+1))) (xs[i]!)))) rfl (AA (ER U23_ IJ .i64 ((q:Nat):Int) q rfl rfl rfl ho1_8 (by (simp only [List.length_set,List.length_append,List.length_cons,List.length_nil,List.length_replicate,HK,GY,IC,IB,FE];omega)) fun b605 hb606=>(BY (KM (((BF xs)[q+1]!) ^^^ (BZ (SO (BF xs) xs[i]! xs.length (xs.length - (q+1))) (xs[i]!))) IJ rfl rfl rfl ho1_8 hb606 (hB1_8 _ hb606) (by (simp only [List.length_set,List.length_append,List.length_cons,List.length_nil,List.length_replicate,HK,GY,IC,IB,FE];omega)) rfl s601 fun w607 s608 m609 k610 bx611=>(?_)))))))))))
      have h_ys:=h_ys.mv m609
      have ho0_4:=ho0_4.mv m609 k610 (fun b hb=>by simp only [List.mem_singleton];rintro rfl;exact absurd hb606 (np1_8_vo0_4 _ hb))
      have hl554:=hl554.mv m609
      have h_xs:=h_xs.mv m609
      refine AF (CI (AC (?_)))
      refine AB kR (AA (AE (vI ((q:Nat):Int)) rfl (AA (HW .i64 ((q:Nat):Int) (1:Int) (((q:Nat):Int) - (1:Int)) rfl rfl (FO oM oM) (AA (AD (vI (((q:Nat):Int) - (1:Int))) rfl (AF (AC (?_)))))))))
      exact ⟨_,oM,(q),vo1_8,Bl1,oM,rfl,⟨_,AX _ ⟨rfl,rfl,rfl,rfl,rfl,rfl,rfl,(congrArg vB (by exact (sdC_step oM).symm)),(by rfl),rfl,rfl,rfl,rfl,trivial⟩⟩,s608,(by rw [show HA (GK (BF xs) xs xs.length i) (BF xs) xs[i]! xs.length (xs.length - (q))=(HA (GK (BF xs) xs xs.length i) (BF xs) xs[i]! xs.length (xs.length - (q+1))).set q (((BF xs)[q+1]!) ^^^ (BZ (SO (BF xs) xs[i]! xs.length (xs.length - (q+1))) (xs[i]!))) from sdQ_step oM];exact bx611),hB1_8,h_ys,ho0_4,hB0_4,hl554,h_xs,no1_8_vo0_4,np1_8_vo0_4⟩
     ·have hp612:(k:Int) - 1<(0:Int):=by (have e:=hc580;simp at e;omega)
      obtain rfl:k=0:=by omega
      refine DE (CC (CC (CY (AC (?_)))))
      refine AG (?_)
      refine cw_draw' 8 _ _ [fun (vT:Value) (wT:World)=>BG Enc.u8 wT (Bl1++O) vT (ys),DF (vI ((i:Nat):Int)),fun (vT:Value) (wT:World)=>∃ aT,vT = .pointer (some aT)∧PT Enc.u8 wT (Bl1++O) (.pointer (some aT)) (ys[i]!),DF (vB (ys[i]!)),DF vo1_8,DF (vB (xs[i]!)),DF (vB (EG (HA (GK (BF xs) xs xs.length i) (BF xs) xs[i]! xs.length (xs.length - 0)) (xs[i]!))),DF (vB (FZ (EG (HA (GK (BF xs) xs xs.length i) (BF xs) xs[i]! xs.length (xs.length - 0)) (xs[i]!))))] kR kR kR kR rfl rfl ⟨fun _ _ _ h k=>h.mv (Mv.of_keep k),kI,fun _ _ _ ⟨a,e,h⟩ k=>⟨a,e,h.mv (Mv.of_keep k)⟩,kI,kI,kI,kI,kI,trivial⟩ ⟨?_,?_,?_,?_,?_,?_,?_,?_,trivial⟩ ?_
      ·intro F1 w1 k1 hf hd
       have k0:=(Keep.drew [] wl1).trans k1
       have m1:Mv Bl1 wl1 Bl1 w1:=Mv.of_keep k0
       have h_ys:=h_ys.mv m1
       obtain ⟨F2,rfl⟩:=AL (F:=F1) [(1,ys_v)] ⟨hf 1 kR,trivial⟩
       exact AH rfl ((AE (ys_v) rfl (⟨(Keep.refl _ _),h_ys⟩)))
      ·intro F1 w1 k1 hf hd
       obtain ⟨F2,rfl⟩:=AL (F:=F1) [(9,vI ((i:Nat):Int))] ⟨hf 9 kR,trivial⟩
       exact AH rfl ((AE (vI ((i:Nat):Int)) rfl (⟨(Keep.refl _ _),rfl⟩)))
      ·intro F1 w1 k1 hf hd
       obtain ⟨v613,e615,hl614⟩:∃ v,F1 52=v∧BG Enc.u8 w1 (Bl1++O) v (ys):=⟨_,rfl,hd 0 52 kR⟩
       have:=hl614.len_le
       obtain ⟨F2,rfl⟩:=AL (F:=F1) [(52,v613),(53,vI ((i:Nat):Int))] ⟨e615,hd 1 53 kR,trivial⟩
       exact AH rfl ((DI U23_ IJ .i64 ((i:Nat):Int) i rfl rfl rfl hl614 oM fun a616 hp617=>(⟨(Keep.refl _ _),⟨a616,rfl,hp617⟩⟩)))
      ·intro F1 w1 k1 hf hd
       obtain ⟨a618,e620,hp619⟩:∃ aX_,F1 54 = .pointer (some aX_)∧PT Enc.u8 w1 (Bl1++O) (.pointer (some aX_)) (ys[i]!):=hd 2 54 kR
       obtain ⟨F2,rfl⟩:=AL (F:=F1) [(54,vP (some a618))] ⟨e620,trivial⟩
       exact AH rfl ((HJ U5_ rfl rfl hp619 (⟨(Keep.refl _ _),rfl⟩)))
      ·intro F1 w1 k1 hf hd
       obtain ⟨F2,rfl⟩:=AL (F:=F1) [(8,vo1_8)] ⟨hf 8 kR,trivial⟩
       exact AH rfl ((AE (vo1_8) rfl (⟨(Keep.refl _ _),rfl⟩)))
      ·intro F1 w1 k1 hf hd
       obtain ⟨F2,rfl⟩:=AL (F:=F1) [(10,vB (xs[i]!))] ⟨hf 10 kR,trivial⟩
       exact AH rfl ((AE (vB (xs[i]!)) rfl (⟨(Keep.refl _ _),rfl⟩)))
      ·intro F1 w1 k1 hf hd
       have k0:=(Keep.drew [] wl1).trans k1
       have s1:=sl1.call k0
       have m1:Mv Bl1 wl1 Bl1 w1:=Mv.of_keep k0
       have ho1_8:=ho1_8.mv m1 k0 (by simp)
       obtain ⟨F2,rfl⟩:=AL (F:=F1) [(56,vo1_8),(57,vB (xs[i]!))] ⟨hd 4 56 kR,hd 5 57 kR,trivial⟩
       refine AH rfl ((BB (vs:=[vo1_8,vB (xs[i]!)]) UC (c_eval (O:=[]) vo1_8 (HA (GK (BF xs) xs xs.length i) (BF xs) xs[i]! xs.length (xs.length - 0)) (xs[i]!) w1 ho1_8.rd0 RF) rfl s1 fun v621 w622 s623 m624 k625 r626=>(?_)))
       obtain rfl:=r626
       exact ⟨k625,rfl⟩
      ·intro F1 w1 k1 hf hd
       have k0:=(Keep.drew [] wl1).trans k1
       have s1:=sl1.call k0
       obtain ⟨F2,rfl⟩:=AL (F:=F1) [(58,vB (EG (HA (GK (BF xs) xs xs.length i) (BF xs) xs[i]! xs.length (xs.length - 0)) (xs[i]!)))] ⟨hd 6 58 kR,trivial⟩
       refine AH rfl ((BB (vs:=[vB (EG (HA (GK (BF xs) xs xs.length i) (BF xs) xs[i]! xs.length (xs.length - 0)) (xs[i]!))]) enter_94 (c_inverse (O:=Bl1++O) (EG (HA (GK (BF xs) xs xs.length i) (BF xs) xs[i]! xs.length (xs.length - 0)) (xs[i]!)) w1 s1.lt) rfl s1 fun v627 w628 s629 m630 k631 r632=>(?_)))
       obtain rfl:=r632
       exact ⟨k631,rfl⟩
      intro F634 w635 k633 hT636 hF637
      have s638:=sl1.call k633
      have m639:Mv Bl1 wl1 Bl1 w635:=Mv.of_keep k633
      have h_ys:=h_ys.mv m639
      have ho0_4:=ho0_4.mv m639 k633 (by simp)
      have hl554:=hl554.mv m639
      have ho1_8:=ho1_8.mv m639 k633 (by simp)
      have h_xs:=h_xs.mv m639
      obtain ⟨F2,rfl⟩:=AL (F:=F634) [(1,ys_v),(4,vo0_4),(6,vI (xs.length:Int)),(7,v548),(8,vo1_8),(26,xs_v),(27,vI (xs.length:Int)),(28,vI ((i:Nat):Int)),(81,undef),(55,vB (ys[i]!)),(59,vB (FZ (EG (HA (GK (BF xs) xs xs.length i) (BF xs) xs[i]! xs.length (xs.length - 0)) (xs[i]!))))] ⟨hF637 1 kR,hF637 4 kR,hF637 6 kR,hF637 7 kR,hF637 8 kR,hF637 26 kR,hF637 27 kR,hF637 28 kR,hF637 81 kR,hT636 3 55 kR (by decide),hT636 7 59 kR (by decide),trivial⟩
      clear hT636 hF637
      refine AA (BB (vs:=[vB (ys[i]!),vB (FZ (EG (HA (GK (BF xs) xs xs.length i) (BF xs) xs[i]! xs.length (xs.length - 0)) (xs[i]!)))]) LR (VZ (O:=Bl1++O) (ys[i]!) (FZ (EG (HA (GK (BF xs) xs xs.length i) (BF xs) xs[i]! xs.length (xs.length - 0)) (xs[i]!))) w635 s638.lt) rfl s638 fun v642 w643 s644 m645 k646 r647=>(?_))
      obtain rfl:=r647
      have h_ys:=h_ys.mv m645
      have ho0_4:=ho0_4.mv m645 k646 (by simp)
      have hl554:=hl554.mv m645
      have ho1_8:=ho1_8.mv m645 k646 (by simp)
      have h_xs:=h_xs.mv m645
      refine AA (AD (vB (BZ (ys[i]!) (FZ (EG (HA (GK (BF xs) xs xs.length i) (BF xs) xs[i]! xs.length (xs.length - 0)) (xs[i]!))))) rfl (AF (AC (?_))))
      refine AG (?_)
      refine AB kR (AA (AE (vo0_4) rfl (AA (RN U23_ rfl ho0_4 (AA (AE (vI 0) rfl (AF (AC (?_)))))))))
      refine BR (?_)
      have hcl:=HK (BF xs) xs ys xs.length i
      refine DH (fun mI FI wI=>∃ (j:Nat) (vo2_4:Value) (B:List Nat),j≤xs.length∧mI=xs.length - j∧(∃ F1,FI=FT F1 [(1,ys_v),(4,vo2_4),(6,vI (xs.length:Int)),(7,v548),(8,vo1_8),(13,vB (BZ (ys[i]!) (FZ (EG (HA (GK (BF xs) xs xs.length i) (BF xs) xs[i]! xs.length (xs.length - 0)) (xs[i]!))))),(26,xs_v),(27,vI (xs.length:Int)),(28,vI ((i:Nat):Int)),(62,vI ((OS (BF xs) xs ys xs.length i).length:Int)),(63,vI ((j:Nat):Int)),(81,undef)])∧St w O wI B∧EJ Enc.u8 5 w.heap.size (B++O) wI vo2_4 (adF (OS (BF xs) xs ys xs.length i) (HA (GK (BF xs) xs xs.length i) (BF xs) xs[i]! xs.length (xs.length - 0)) (BZ ys[i]! (FZ (EG (HA (GK (BF xs) xs xs.length i) (BF xs) xs[i]! xs.length (xs.length - 0)) xs[i]!))) j)∧(∀ b,vo2_4.ownBlock=some b→b∈B)∧BG Enc.u8 wI (B++O) (ys_v) (ys)∧BG Enc.u8 wI (B++O) (v548) (BF xs)∧EJ Enc.u8 5 w.heap.size (B++O) wI vo1_8 (HA (GK (BF xs) xs xs.length i) (BF xs) xs[i]! xs.length (xs.length - 0))∧(∀ b,vo1_8.ownBlock=some b→b∈B)∧BG Enc.u8 wI (B++O) (xs_v) (xs)∧(∀ b,vo2_4.ownBlock=some b→vo1_8.ownBlock≠some b)∧(∀ b,vo1_8.ownBlock=some b→vo2_4.ownBlock≠some b)) (xs.length - (0)) ?_ ?_
      ·exact ⟨(0),vo0_4,Bl1,oM,rfl,⟨_,AX _ ⟨rfl,rfl,rfl,rfl,rfl,rfl,rfl,rfl,rfl,rfl,(by rfl),rfl,trivial⟩⟩,s644,(by rw [show adF (OS (BF xs) xs ys xs.length i) (HA (GK (BF xs) xs xs.length i) (BF xs) xs[i]! xs.length (xs.length - 0)) (BZ ys[i]! (FZ (EG (HA (GK (BF xs) xs xs.length i) (BF xs) xs[i]! xs.length (xs.length - 0)) xs[i]!))) (0)=OS (BF xs) xs ys xs.length i from rfl];exact ho0_4),hB0_4,h_ys,hl554,ho1_8,hB1_8,h_xs,np1_8_vo0_4,no1_8_vo0_4⟩
      ·intro ml2 F wl2 hI
       clear h_ys hl554 ho1_8 hB1_8 h_xs
       obtain ⟨j,vo2_4,Bl2,hr2_0,hm2,⟨Fl2,rfl⟩,sl2,ho2_4,hB2_4,h_ys,hl554,ho1_8,hB1_8,h_xs,no2_4_vo1_8,np2_4_vo1_8⟩:=hI
       refine AG (?_)
       refine AB kR (AA (DW .i64 ((j:Nat):Int) ((OS (BF xs) xs ys xs.length i).length:Int) rfl rfl (AF (AC (?_)))))
       refine AG (?_)
       refine AO (decide (((j:Nat):Int)<((OS (BF xs) xs ys xs.length i).length:Int))) rfl rfl (fun hc648=>?_) (fun hc648=>?_)
       ·have hp649:((j:Nat):Int)<((OS (BF xs) xs ys xs.length i).length:Int):=by simpa using hc648
        refine AU (AC (?_))
        refine AG (?_)
        refine BR (?_)
        refine AG (?_)
        refine AB kR (AA (AE (vI ((j:Nat):Int)) rfl (AA (AD (vI ((j:Nat):Int)) rfl (AF (AC (?_)))))))
        refine cw_draw' 10 _ _ [DF vo2_4,DF (vI ((j:Nat):Int)),fun (vT:Value) (wT:World)=>∃ bT,vT = .pointer (some ⟨bT,j*1,none⟩)∧vo2_4.ownBlock=some bT,DF (vB ((adF (OS (BF xs) xs ys xs.length i) (HA (GK (BF xs) xs xs.length i) (BF xs) xs[i]! xs.length (xs.length - 0)) (BZ ys[i]! (FZ (EG (HA (GK (BF xs) xs xs.length i) (BF xs) xs[i]! xs.length (xs.length - 0)) xs[i]!))) j)[j]!)),DF vo1_8,DF (vI ((j:Nat):Int)),fun (vT:Value) (wT:World)=>∃ bT,vT = .pointer (some ⟨bT,j*1,none⟩)∧vo1_8.ownBlock=some bT,DF (vB ((HA (GK (BF xs) xs xs.length i) (BF xs) xs[i]! xs.length (xs.length - 0))[j]!)),DF (vB (BZ (ys[i]!) (FZ (EG (HA (GK (BF xs) xs xs.length i) (BF xs) xs[i]! xs.length (xs.length - 0)) (xs[i]!))))),DF (vB (BZ ((HA (GK (BF xs) xs xs.length i) (BF xs) xs[i]! xs.length (xs.length - 0))[j]!) (BZ (ys[i]!) (FZ (EG (HA (GK (BF xs) xs xs.length i) (BF xs) xs[i]! xs.length (xs.length - 0)) (xs[i]!))))))] kR kR kR kR rfl rfl ⟨kI,kI,fun _ _ _ h _=>h,kI,kI,kI,fun _ _ _ h _=>h,kI,kI,kI,trivial⟩ ⟨?_,?_,?_,?_,?_,?_,?_,?_,?_,?_,trivial⟩ ?_
        ·intro F1 w1 k1 hf hd
         obtain ⟨F2,rfl⟩:=AL (F:=F1) [(4,vo2_4)] ⟨hf 4 kR,trivial⟩
         exact AH rfl ((AE (vo2_4) rfl (⟨(Keep.refl _ _),rfl⟩)))
        ·intro F1 w1 k1 hf hd
         obtain ⟨F2,rfl⟩:=AL (F:=F1) [(14,vI ((j:Nat):Int))] ⟨hf 14 kR,trivial⟩
         exact AH rfl ((AE (vI ((j:Nat):Int)) rfl (⟨(Keep.refl _ _),rfl⟩)))
        ·intro F1 w1 k1 hf hd
         have k0:=(Keep.drew [] wl2).trans k1
         have m1:Mv Bl2 wl2 Bl2 w1:=Mv.of_keep k0
         have ho2_4:=ho2_4.mv m1 k0 (by simp)
         obtain ⟨F2,rfl⟩:=AL (F:=F1) [(66,vo2_4),(67,vI ((j:Nat):Int))] ⟨hd 0 66 kR,hd 1 67 kR,trivial⟩
         exact AH rfl ((ER U23_ IJ .i64 ((j:Nat):Int) j rfl rfl rfl ho2_4 (by (simp only [List.length_set,List.length_append,List.length_cons,List.length_nil,List.length_replicate,HK,GY,IC,IB,FE];omega)) fun b650 hb651=>(⟨(Keep.refl _ _),⟨_,rfl,hb651⟩⟩)))
        ·intro F1 w1 k1 hf hd
         have k0:=(Keep.drew [] wl2).trans k1
         have m1:Mv Bl2 wl2 Bl2 w1:=Mv.of_keep k0
         have ho2_4:=ho2_4.mv m1 k0 (by simp)
         obtain ⟨b652,e654,hb653⟩:∃ b,F1 68 = .pointer (some ⟨b,j*1,none⟩)∧vo2_4.ownBlock=some b:=hd 2 68 kR
         obtain ⟨F2,rfl⟩:=AL (F:=F1) [(68,vP (some ⟨b652,j*1,none⟩))] ⟨e654,trivial⟩
         exact AH rfl ((LM U5_ rfl rfl ho2_4 hb653 (by (simp only [List.length_set,List.length_append,List.length_cons,List.length_nil,List.length_replicate,HK,GY,IC,IB,FE];omega)) (⟨(Keep.refl _ _),rfl⟩)))
        ·intro F1 w1 k1 hf hd
         obtain ⟨F2,rfl⟩:=AL (F:=F1) [(8,vo1_8)] ⟨hf 8 kR,trivial⟩
         exact AH rfl ((AE (vo1_8) rfl (⟨(Keep.refl _ _),rfl⟩)))
        ·intro F1 w1 k1 hf hd
         obtain ⟨F2,rfl⟩:=AL (F:=F1) [(14,vI ((j:Nat):Int))] ⟨hf 14 kR,trivial⟩
         exact AH rfl ((AE (vI ((j:Nat):Int)) rfl (⟨(Keep.refl _ _),rfl⟩)))
        ·intro F1 w1 k1 hf hd
         have k0:=(Keep.drew [] wl2).trans k1
         have m1:Mv Bl2 wl2 Bl2 w1:=Mv.of_keep k0
         have ho1_8:=ho1_8.mv m1 k0 (by simp)
         obtain ⟨F2,rfl⟩:=AL (F:=F1) [(70,vo1_8),(71,vI ((j:Nat):Int))] ⟨hd 4 70 kR,hd 5 71 kR,trivial⟩
         exact AH rfl ((ER U23_ IJ .i64 ((j:Nat):Int) j rfl rfl rfl ho1_8 (by (simp only [List.length_set,List.length_append,List.length_cons,List.length_nil,List.length_replicate,HK,GY,IC,IB,FE];omega)) fun b655 hb656=>(⟨(Keep.refl _ _),⟨_,rfl,hb656⟩⟩)))
        ·intro F1 w1 k1 hf hd
         have k0:=(Keep.drew [] wl2).trans k1
         have m1:Mv Bl2 wl2 Bl2 w1:=Mv.of_keep k0
         have ho1_8:=ho1_8.mv m1 k0 (by simp)
         obtain ⟨b657,e659,hb658⟩:∃ b,F1 72 = .pointer (some ⟨b,j*1,none⟩)∧vo1_8.ownBlock=some b:=hd 6 72 kR
         obtain ⟨F2,rfl⟩:=AL (F:=F1) [(72,vP (some ⟨b657,j*1,none⟩))] ⟨e659,trivial⟩
         exact AH rfl ((LM U5_ rfl rfl ho1_8 hb658 (by (simp only [List.length_set,List.length_append,List.length_cons,List.length_nil,List.length_replicate,HK,GY,IC,IB,FE];omega)) (⟨(Keep.refl _ _),rfl⟩)))
        ·intro F1 w1 k1 hf hd
         obtain ⟨F2,rfl⟩:=AL (F:=F1) [(13,vB (BZ (ys[i]!) (FZ (EG (HA (GK (BF xs) xs xs.length i) (BF xs) xs[i]! xs.length (xs.length - 0)) (xs[i]!)))))] ⟨hf 13 kR,trivial⟩
         exact AH rfl ((AE (vB (BZ (ys[i]!) (FZ (EG (HA (GK (BF xs) xs xs.length i) (BF xs) xs[i]! xs.length (xs.length - 0)) (xs[i]!))))) rfl (⟨(Keep.refl _ _),rfl⟩)))
        ·intro F1 w1 k1 hf hd
         have k0:=(Keep.drew [] wl2).trans k1
         have s1:=sl2.call k0
         obtain ⟨F2,rfl⟩:=AL (F:=F1) [(73,vB ((HA (GK (BF xs) xs xs.length i) (BF xs) xs[i]! xs.length (xs.length - 0))[j]!)),(74,vB (BZ (ys[i]!) (FZ (EG (HA (GK (BF xs) xs xs.length i) (BF xs) xs[i]! xs.length (xs.length - 0)) (xs[i]!)))))] ⟨hd 7 73 kR,hd 8 74 kR,trivial⟩
         refine AH rfl ((BB (vs:=[vB ((HA (GK (BF xs) xs xs.length i) (BF xs) xs[i]! xs.length (xs.length - 0))[j]!),vB (BZ (ys[i]!) (FZ (EG (HA (GK (BF xs) xs xs.length i) (BF xs) xs[i]! xs.length (xs.length - 0)) (xs[i]!))))]) LR (VZ (O:=Bl2++O) ((HA (GK (BF xs) xs xs.length i) (BF xs) xs[i]! xs.length (xs.length - 0))[j]!) (BZ (ys[i]!) (FZ (EG (HA (GK (BF xs) xs xs.length i) (BF xs) xs[i]! xs.length (xs.length - 0)) (xs[i]!)))) w1 s1.lt) rfl s1 fun v660 w661 s662 m663 k664 r665=>(?_)))
         obtain rfl:=r665
         exact ⟨k664,rfl⟩
        intro F667 w668 k666 hT669 hF670
        have s671:=sl2.call k666
        have m672:Mv Bl2 wl2 Bl2 w668:=Mv.of_keep k666
        have h_ys:=h_ys.mv m672
        have ho2_4:=ho2_4.mv m672 k666 (by simp)
        have hl554:=hl554.mv m672
        have ho1_8:=ho1_8.mv m672 k666 (by simp)
        have h_xs:=h_xs.mv m672
        obtain ⟨F2,rfl⟩:=AL (F:=F667) [(1,ys_v),(4,vo2_4),(6,vI (xs.length:Int)),(7,v548),(8,vo1_8),(13,vB (BZ (ys[i]!) (FZ (EG (HA (GK (BF xs) xs xs.length i) (BF xs) xs[i]! xs.length (xs.length - 0)) (xs[i]!))))),(26,xs_v),(27,vI (xs.length:Int)),(28,vI ((i:Nat):Int)),(62,vI ((OS (BF xs) xs ys xs.length i).length:Int)),(63,vI ((j:Nat):Int)),(81,undef),(66,vo2_4),(67,vI ((j:Nat):Int)),(69,vB ((adF (OS (BF xs) xs ys xs.length i) (HA (GK (BF xs) xs xs.length i) (BF xs) xs[i]! xs.length (xs.length - 0)) (BZ ys[i]! (FZ (EG (HA (GK (BF xs) xs xs.length i) (BF xs) xs[i]! xs.length (xs.length - 0)) xs[i]!))) j)[j]!)),(75,vB (BZ ((HA (GK (BF xs) xs xs.length i) (BF xs) xs[i]! xs.length (xs.length - 0))[j]!) (BZ (ys[i]!) (FZ (EG (HA (GK (BF xs) xs xs.length i) (BF xs) xs[i]! xs.length (xs.length - 0)) (xs[i]!))))))] ⟨hF670 1 kR,hF670 4 kR,hF670 6 kR,hF670 7 kR,hF670 8 kR,hF670 13 kR,hF670 26 kR,hF670 27 kR,hF670 28 kR,hF670 62 kR,hF670 63 kR,hF670 81 kR,hT669 0 66 kR (by decide),hT669 1 67 kR (by decide),hT669 3 69 kR (by decide),hT669 9 75 kR (by decide),trivial⟩
        clear hT669 hF670
        refine AA (NQ ((adF (OS (BF xs) xs ys xs.length i) (HA (GK (BF xs) xs xs.length i) (BF xs) xs[i]! xs.length (xs.length - 0)) (BZ ys[i]! (FZ (EG (HA (GK (BF xs) xs xs.length i) (BF xs) xs[i]! xs.length (xs.length - 0)) xs[i]!))) j)[j]!) (BZ ((HA (GK (BF xs) xs xs.length i) (BF xs) xs[i]! xs.length (xs.length - 0))[j]!) (BZ (ys[i]!) (FZ (EG (HA (GK (BF xs) xs xs.length i) (BF xs) xs[i]! xs.length (xs.length - 0)) (xs[i]!))))) rfl rfl (AA (ER U23_ IJ .i64 ((j:Nat):Int) j rfl rfl rfl ho2_4 (by (simp only [List.length_set,List.length_append,List.length_cons,List.length_nil,List.length_replicate,HK,GY,IC,IB,FE];omega)) fun b675 hb676=>(BY (KM (((adF (OS (BF xs) xs ys xs.length i) (HA (GK (BF xs) xs xs.length i) (BF xs) xs[i]! xs.length (xs.length - 0)) (BZ ys[i]! (FZ (EG (HA (GK (BF xs) xs xs.length i) (BF xs) xs[i]! xs.length (xs.length - 0)) xs[i]!))) j)[j]!) ^^^ (BZ ((HA (GK (BF xs) xs xs.length i) (BF xs) xs[i]! xs.length (xs.length - 0))[j]!) (BZ (ys[i]!) (FZ (EG (HA (GK (BF xs) xs xs.length i) (BF xs) xs[i]! xs.length (xs.length - 0)) (xs[i]!)))))) IJ rfl rfl rfl ho2_4 hb676 (hB2_4 _ hb676) (by (simp only [List.length_set,List.length_append,List.length_cons,List.length_nil,List.length_replicate,HK,GY,IC,IB,FE];omega)) rfl s671 fun w677 s678 m679 k680 bx681=>(?_))))))
        have h_ys:=h_ys.mv m679
        have hl554:=hl554.mv m679
        have ho1_8:=ho1_8.mv m679 k680 (fun b hb=>by simp only [List.mem_singleton];rintro rfl;exact absurd hb676 (np2_4_vo1_8 _ hb))
        have h_xs:=h_xs.mv m679
        refine AF (CI (AC (?_)))
        refine AB kR (AA (DC .i64 ((j:Nat):Int) (1:Int) (((j+1:Nat):Int)) rfl rfl (FO oM oM) (AA (AE (vI ((j+1:Nat):Int)) rfl (AF (AC (?_)))))))
        exact ⟨_,oM,(j+1),vo2_4,Bl2,oM,rfl,⟨_,AX _ ⟨rfl,rfl,rfl,rfl,rfl,rfl,rfl,rfl,rfl,rfl,(by rfl),rfl,trivial⟩⟩,s678,(by rw [show adF (OS (BF xs) xs ys xs.length i) (HA (GK (BF xs) xs xs.length i) (BF xs) xs[i]! xs.length (xs.length - 0)) (BZ ys[i]! (FZ (EG (HA (GK (BF xs) xs xs.length i) (BF xs) xs[i]! xs.length (xs.length - 0)) xs[i]!))) (j+1)=(adF (OS (BF xs) xs ys xs.length i) (HA (GK (BF xs) xs xs.length i) (BF xs) xs[i]! xs.length (xs.length - 0)) (BZ ys[i]! (FZ (EG (HA (GK (BF xs) xs xs.length i) (BF xs) xs[i]! xs.length (xs.length - 0)) xs[i]!))) j).set j (((adF (OS (BF xs) xs ys xs.length i) (HA (GK (BF xs) xs xs.length i) (BF xs) xs[i]! xs.length (xs.length - 0)) (BZ ys[i]! (FZ (EG (HA (GK (BF xs) xs xs.length i) (BF xs) xs[i]! xs.length (xs.length - 0)) xs[i]!))) j)[j]!) ^^^ (BZ ((HA (GK (BF xs) xs xs.length i) (BF xs) xs[i]! xs.length (xs.length - 0))[j]!) (BZ (ys[i]!) (FZ (EG (HA (GK (BF xs) xs xs.length i) (BF xs) xs[i]! xs.length (xs.length - 0)) (xs[i]!)))))) from rfl];exact bx681),hB2_4,h_ys,hl554,ho1_8,hB1_8,h_xs,no2_4_vo1_8,np2_4_vo1_8⟩
       ·have hp682:((OS (BF xs) xs ys xs.length i).length:Int)≤((j:Nat):Int):=by simpa using hc648
        obtain rfl:j=xs.length:=by omega
        refine DE (CC (CC (CY (CI (AC (?_))))))
        refine AB kR (AA (DC .i64 ((i:Nat):Int) (1:Int) (((i+1:Nat):Int)) rfl rfl (FO oM oM) (AA (AE (vI ((i+1:Nat):Int)) rfl (AF (AC (?_)))))))
        exact ⟨_,oM,(i+1),vo2_4,vo1_8,Bl2,oM,rfl,⟨_,AX _ ⟨rfl,rfl,rfl,rfl,rfl,rfl,rfl,(by rfl),rfl,trivial⟩⟩,sl2,(by rw [show OS (BF xs) xs ys xs.length (i+1)=adF (OS (BF xs) xs ys xs.length i) (HA (GK (BF xs) xs xs.length i) (BF xs) xs[i]! xs.length (xs.length - 0)) (BZ ys[i]! (FZ (EG (HA (GK (BF xs) xs xs.length i) (BF xs) xs[i]! xs.length (xs.length - 0)) xs[i]!))) xs.length from by rw [Nat.sub_zero];simp only [OS,GK]];exact ho2_4),hB2_4,(by rw [show GK (BF xs) xs xs.length (i+1)=HA (GK (BF xs) xs xs.length i) (BF xs) xs[i]! xs.length (xs.length - 0) from by rw [GK,Nat.sub_zero]];exact ho1_8),hB1_8,h_ys,hl554,h_xs,no2_4_vo1_8,np2_4_vo1_8⟩
   ·have hp683:(xs.length:Int)≤((i:Nat):Int):=by simpa using hc576
    obtain rfl:i=xs.length:=by omega
    refine DE (CC (CC (CY (AC (?_)))))
    refine AG (?_)
    refine AB kR (AA (AE (vo0_4) rfl (AA (AD (vo0_4) rfl (AA (AD (vI 0) rfl (AF (AC (?_)))))))))
    refine AP (AZ rfl (FF rfl rfl rfl rfl) (?_))
    have e:(EL xs ys)=(OS (BF xs) xs ys xs.length xs.length,(0:Int)):=by simp [EL, *]
    exact ⟨_,rfl,sl0.keep,by rw [e];exact ⟨vo0_4,rfl,ho0_4.pub sl0⟩⟩
set_option maxHeartbeats 4000000 in
set_option maxRecDepth 100000 in
theorem c_through {O:List Nat} (xs_v:Value) (xs:List UInt8) (ys_v:Value) (ys:List UInt8) (at_:UInt8) (w:World) (h_xs:BG Enc.u8 w O xs_v xs) (h_ys:BG Enc.u8 w O ys_v ys) (hpre0:xs.length<1000000) (hO:∀ b∈O,b<w.heap.size):CF Try.prog 63 [xs_v,ys_v,vB at_] w (fun v _=>v = .tuple #[vB ((DB xs ys at_).1),vI ((DB xs ys at_).2)]):= by
 have lim_xs:=h_xs.len_le
 have h_xs:BG Enc.u8 w ([]++O) xs_v xs:=h_xs
 have lim_ys:=h_ys.len_le
 have h_ys:BG Enc.u8 w ([]++O) ys_v ys:=h_ys
 have s0:St w O w []:=St.start hO
 refine BQ 21 Try.func63 rfl rfl oT (fun F0=>?_)
 refine AG (?_)
 refine AB kR (AA (AD (vB (0:UInt8)) rfl (AA (AD (vI 0) rfl (AF (AC (?_)))))))
 refine AG (?_)
 refine AB kR (AA (AE (xs_v) rfl (AA (AE (ys_v) rfl (AA (BB (vs:=[xs_v,ys_v]) enter_43 (c_coeff (O:=[]++O) xs_v xs ys_v ys w h_xs h_ys oM s0.lt) rfl s0 fun v684 w685 s686 m687 k688 r689=>(?_)))))))
 obtain ⟨x690,rfl,hl691⟩:=r689
 have:=hl691.len_le
 refine AA (AE (vT #[x690,vI ((EL xs ys).2)]) rfl (AA (AN (x690) rfl rfl (AA (AN (vI ((EL xs ys).2)) rfl rfl (AA (AD (x690) rfl (AA (AD (vI ((EL xs ys).2)) rfl (AF (AC (?_))))))))))))
 refine AG (?_)
 refine AG (?_)
 refine AB kR (AA (AE (vI ((EL xs ys).2)) rfl (AA (CV .i64 ((EL xs ys).2) (0:Int) rfl rfl (AF (AC (?_)))))))
 refine AO (((EL xs ys).2) != (0:Int)) rfl rfl (fun hc692=>?_) (fun hc692=>?_)
 ·have hp693:(EL xs ys).2≠(0:Int):=by simpa using hc692
  refine AG (?_)
  refine AB kR (AA (AE (vI ((EL xs ys).2)) rfl (AA (AD (vB (0:UInt8)) rfl (AA (AD (vI ((EL xs ys).2)) rfl (AF (AC (?_)))))))))
  refine AP (AR (AZ rfl (FF rfl rfl rfl rfl) (?_)))
  have e:(DB xs ys at_)=((0:UInt8),(EL xs ys).2):=by simp [DB, *]
  exact ⟨_,rfl,s686.keep,by rw [e];exact rfl⟩
 ·have hp694:(EL xs ys).2=(0:Int):=by simpa using hc692
  refine AU (AC (?_))
  refine AG (?_)
  refine AB kR (AA (AE (x690) rfl (AA (AE (vB at_) rfl (AA (BB (vs:=[x690,vB at_]) UC (c_eval (O:=[]++O) x690 ((EL xs ys).1) at_ w685 hl691 s686.lt) rfl s686 fun v695 w696 s697 m698 k699 r700=>(?_)))))))
  obtain rfl:=r700
  refine AA (AD (vB (EG ((EL xs ys).1) at_)) rfl (AA (AD (vI 0) rfl (AF (AC (?_))))))
  refine AP (AZ rfl (FF rfl rfl rfl rfl) (?_))
  have e:(DB xs ys at_)=(EG ((EL xs ys).1) at_,(0:Int)):=by simp [DB, *]
  exact ⟨_,rfl,s697.keep,by rw [e];exact rfl⟩
open Go.Fw
theorem all8 (p:UInt8→Bool) (h:(List.range 256).all (fun n=>p (UInt8.ofNat n))=true) (x:UInt8):p x=true:=by
  have:=List.all_eq_true.1 h x.toNat (List.mem_range.2 x.toNat_lt)
  rwa [UInt8.ofNat_toNat] at this
def VG (f:UInt8→UInt8):Prop:=∀ x y,f (x ^^^ y)=f x ^^^ f y
theorem xor_zero (a:UInt8):a ^^^ 0=a:=UInt8.xor_zero
theorem zero_xor (a:UInt8):0 ^^^ a=a:=UInt8.zero_xor
theorem xor_self (a:UInt8):a ^^^ a=0:=UInt8.xor_self
theorem xor_c (a b:UInt8):a ^^^ b=b ^^^ a:=UInt8.xor_comm a b
theorem RX (a b c:UInt8):a ^^^ b ^^^ c=a ^^^ (b ^^^ c):=UInt8.xor_assoc a b c
theorem xor_lc (a b c:UInt8):a ^^^ (b ^^^ c)=b ^^^ (a ^^^ c):=by rw [← RX,xor_c a b,RX]
theorem xor_cancel (a b:UInt8):a ^^^ (a ^^^ b)=b:=by rw [← RX,xor_self,zero_xor]
theorem KV {a b:UInt8}:a ^^^ b=0↔a=b:=⟨fun h=>by have:=congrArg (a ^^^ ·) h;simp only [xor_cancel,xor_zero] at this;exact this.symm,fun h=>by rw [h,xor_self]⟩
theorem xor4 (a b c d:UInt8):(a ^^^ b) ^^^ (c ^^^ d)=(a ^^^ c) ^^^ (b ^^^ d):=by rw [RX,RX,xor_lc b c d]
theorem VG.zero {f:UInt8→UInt8} (h:VG f):f 0=0:=by
  have h1:=h 0 0
  rw [xor_self] at h1
  rw [h1,xor_self]
theorem VG.comp {f g:UInt8→UInt8} (hf:VG f) (hg:VG g):VG (fun x=>f (g x)):=fun x y=>by show f (g (x ^^^ y))=_;rw [hg x y,hf]
theorem VG.id:VG fun x=>x:=fun _ _=>rfl
theorem bits_of (x:UInt8):x=(x &&& 1) ^^^ ((x &&& 2) ^^^ ((x &&& 4) ^^^ ((x &&& 8) ^^^ ((x &&& 16) ^^^ ((x &&& 32) ^^^ ((x &&& 64) ^^^ (x &&& 128))))))):=
  of_decide_eq_true (all8 (fun x=>decide (x=(x &&& 1) ^^^ ((x &&& 2) ^^^ ((x &&& 4) ^^^ ((x &&& 8) ^^^ ((x &&& 16) ^^^ ((x &&& 32) ^^^ ((x &&& 64) ^^^ (x &&& 128))))))))) (by decide +kernel) x)
theorem bit_or (x:UInt8):(x &&& 1=0∨x &&& 1=1)∧(x &&& 2=0∨x &&& 2=2)∧(x &&& 4=0∨x &&& 4=4)∧(x &&& 8=0∨x &&& 8=8)∧(x &&& 16=0∨x &&& 16=16)∧(x &&& 32=0∨x &&& 32=32)∧(x &&& 64=0∨x &&& 64=64)∧(x &&& 128=0∨x &&& 128=128):=
  of_decide_eq_true (all8 (fun x=>decide ((x &&& 1=0∨x &&& 1=1)∧(x &&& 2=0∨x &&& 2=2)∧(x &&& 4=0∨x &&& 4=4)∧(x &&& 8=0∨x &&& 8=8)∧(x &&& 16=0∨x &&& 16=16)∧(x &&& 32=0∨x &&& 32=32)∧(x &&& 64=0∨x &&& 64=64)∧(x &&& 128=0∨x &&& 128=128))) (by decide +kernel) x)
theorem lin_ext {f g:UInt8→UInt8} (hf:VG f) (hg:VG g) (h1:f 1=g 1) (h2:f 2=g 2) (h4:f 4=g 4) (h8:f 8=g 8) (h16:f 16=g 16) (h32:f 32=g 32) (h64:f 64=g 64) (h128:f 128=g 128) (x:UInt8):f x=g x:=by
  have z:=hf.zero;have z':=hg.zero
  have key:∀ (y b:UInt8),(y=0∨y=b)→f b=g b→f y=g y:=fun y b h e=>by
    rcases h with h|h
    · rw [h,z,z']
    · rw [h,e]
  obtain ⟨a1,a2,a3,a4,a5,a6,a7,a8⟩:=bit_or x
  rw [bits_of x,hf,hf,hf,hf,hf,hf,hf,hg,hg,hg,hg,hg,hg,hg,key _ _ a1 h1,key _ _ a2 h2,key _ _ a3 h4,key _ _ a4 h8,key _ _ a5 h16,key _ _ a6 h32,key _ _ a7 h64,key _ _ a8 h128]
theorem and1_xor (x y:UInt8):(x ^^^ y) &&& 1=(x &&& 1) ^^^ (y &&& 1):=by
  apply UInt8.toBitVec_inj.1
  simp only [UInt8.toBitVec_and,UInt8.toBitVec_xor]
  apply BitVec.eq_of_getElem_eq
  intro i hi
  simp only [BitVec.getElem_and,BitVec.getElem_xor]
  cases (x.toBitVec[i]) <;> cases (y.toBitVec[i]) <;> simp
theorem bit_xor (x y:UInt8) (i:UInt8):(x ^^^ y) >>> i &&& 1=(x >>> i &&& 1) ^^^ (y >>> i &&& 1):=by
  rw [UInt8.shiftRight_xor,and1_xor]
theorem bit01 (x i:UInt8):x >>> i &&& 1=0∨x >>> i &&& 1=1:=(bit_or (x >>> i)).1
def OQ (c v:UInt8):UInt8:=if c=1 then v else 0
theorem WB {c d:UInt8} (v:UInt8) (hc:c=0∨c=1) (hd:d=0∨d=1):OQ (c ^^^ d) v=OQ c v ^^^ OQ d v:=by
  rcases hc with rfl|rfl <;> rcases hd with rfl|rfl <;> simp [OQ]
theorem pick8_lin (c:UInt8):VG (OQ c):=fun x y=>by unfold OQ;split <;> simp
theorem OF (a b:UInt8) (i:Nat):gm a b (i+1)=gm a b i ^^^ OQ (b >>> UInt8.ofNat i &&& 1) (xtn a i):=by
  unfold OQ
  by_cases h:b >>> UInt8.ofNat i &&& 1=1
  · rw [if_pos h,gm_yes a b i h]
  · rw [if_neg h,gm_no a b i h,xor_zero]
theorem gm_lin (a:UInt8):∀ i,VG fun b=>gm a b i
  | 0=>fun _ _=>by simp [gm]
  | i+1=>fun x y=>by
    show gm a (x ^^^ y) (i+1)=gm a x (i+1) ^^^ gm a y (i+1)
    rw [OF,OF,OF,bit_xor,WB _ (bit01 _ _) (bit01 _ _),show gm a (x ^^^ y) i=_ from gm_lin a i x y,xor4]
theorem JF (a:UInt8):VG (BZ a):=gm_lin a 8
theorem xt_eq (a:UInt8):xt a=a <<< 1 ^^^ OQ (a >>> 7 &&& 1) 27:=
  of_decide_eq_true (all8 (fun a=>decide (xt a=a <<< 1 ^^^ OQ (a >>> 7 &&& 1) 27)) (by decide +kernel) a)
theorem xt_lin:VG xt:=fun x y=>by
  rw [xt_eq,xt_eq,xt_eq,bit_xor,WB _ (bit01 _ _) (bit01 _ _),UInt8.shiftLeft_xor,xor4]
theorem xtn_lin:∀ i,VG fun a=>xtn a i
  | 0=>VG.id
  | i+1=>xt_lin.comp (xtn_lin i)
theorem gm_lin2 (b:UInt8):∀ i,VG fun a=>gm a b i
  | 0=>fun _ _=>by simp [gm]
  | i+1=>fun x y=>by
    show gm (x ^^^ y) b (i+1)=gm x b (i+1) ^^^ gm y b (i+1)
    rw [OF,OF,OF,show xtn (x ^^^ y) i=_ from xtn_lin i x y,pick8_lin,show gm (x ^^^ y) b i=_ from gm_lin2 b i x y,xor4]
theorem HS (b:UInt8):VG fun a=>BZ a b:=gm_lin2 b 8
theorem JP (a b:UInt8):BZ a b=BZ b a:=by
  have key:∀ c:UInt8,(BZ c 1=BZ 1 c∧BZ c 2=BZ 2 c∧BZ c 4=BZ 4 c∧BZ c 8=BZ 8 c∧BZ c 16=BZ 16 c∧BZ c 32=BZ 32 c∧BZ c 64=BZ 64 c∧BZ c 128=BZ 128 c):=fun c=>
    of_decide_eq_true (all8 (fun c=>decide (BZ c 1=BZ 1 c∧BZ c 2=BZ 2 c∧BZ c 4=BZ 4 c∧BZ c 8=BZ 8 c∧BZ c 16=BZ 16 c∧BZ c 32=BZ 32 c∧BZ c 64=BZ 64 c∧BZ c 128=BZ 128 c)) (by decide +kernel) c)
  obtain ⟨h1,h2,h3,h4,h5,h6,h7,h8⟩:=key a
  exact lin_ext (JF a) (HS a) h1 h2 h3 h4 h5 h6 h7 h8 b
theorem TA (a:UInt8):BZ a 1=a:=of_decide_eq_true (all8 (fun a=>decide (BZ a 1=a)) (by decide +kernel) a)
theorem one_gmul (a:UInt8):BZ 1 a=a:=by rw [JP,TA]
theorem JR (a:UInt8):BZ a 0=0:=(JF a).zero
theorem EU (a:UInt8):BZ 0 a=0:=(HS a).zero
theorem gmul_add (a b c:UInt8):BZ a (b ^^^ c)=BZ a b ^^^ BZ a c:=JF a b c
theorem QO (a b c:UInt8):BZ (a ^^^ b) c=BZ a c ^^^ BZ b c:=HS c a b
def pw2:List UInt8:=[1,2,4,8,16,32,64,128]
theorem lin_ext' {f g:UInt8→UInt8} (hf:VG f) (hg:VG g) (h:∀ b∈pw2,f b=g b) (x:UInt8):f x=g x:=
  lin_ext hf hg (h _ (by simp [pw2])) (h _ (by simp [pw2])) (h _ (by simp [pw2])) (h _ (by simp [pw2])) (h _ (by simp [pw2])) (h _ (by simp [pw2])) (h _ (by simp [pw2])) (h _ (by simp [pw2])) x
theorem assoc_basis:∀ a∈pw2,∀ b∈pw2,∀ c∈pw2,BZ (BZ a b) c=BZ a (BZ b c):=by decide +kernel
theorem HQ (a b c:UInt8):BZ (BZ a b) c=BZ a (BZ b c):=by
  refine lin_ext' (f:=fun a=>BZ (BZ a b) c) (g:=fun a=>BZ a (BZ b c)) ((HS c).comp (HS b)) (HS _) (fun a ha=>?_) a
  refine lin_ext' (f:=fun b=>BZ (BZ a b) c) (g:=fun b=>BZ a (BZ b c)) ((HS c).comp (JF a)) ((JF a).comp (HS c)) (fun b hb=>?_) b
  exact lin_ext' (f:=fun c=>BZ (BZ a b) c) (g:=fun c=>BZ a (BZ b c)) (JF _) ((JF a).comp (JF b)) (fun c hc=>assoc_basis a ha b hb c hc) c
theorem QM (a:UInt8) (m:Nat):∀ n,JD a (m+n)=BZ (JD a m) (JD a n)
  | 0=>by simp [JD,TA]
  | n+1=>by rw [← Nat.add_assoc];simp only [JD];rw [QM a m n,HQ]
theorem gpow_one (a:UInt8):JD a 1=a:=by simp [JD,one_gmul]
def fast (a:UInt8):UInt8:=
  let a2:=BZ a a;let a4:=BZ a2 a2;let a8:=BZ a4 a4;let a16:=BZ a8 a8;let a32:=BZ a16 a16;let a64:=BZ a32 a32;let a128:=BZ a64 a64
  BZ a128 (BZ a64 (BZ a32 (BZ a16 (BZ a8 (BZ a4 a2)))))
theorem ginv_fast (a:UInt8):FZ a=fast a:=by
  have h2:BZ a a=JD a 2:=by rw [show (2:Nat)=1+1 from rfl,QM,gpow_one]
  have dbl:∀ n,BZ (JD a n) (JD a n)=JD a (n+n):=fun n=>(QM a n n).symm
  unfold fast FZ
  simp only [h2,dbl,← QM]
theorem VJ {a:UInt8} (h:a≠0):BZ a (FZ a)=1:=by
  have:=all8 (fun a=>decide (a=0∨BZ a (fast a)=1)) (by decide +kernel) a
  rw [ginv_fast];exact (of_decide_eq_true this).resolve_left h
theorem MI {a b:UInt8}:BZ a b=0↔a=0∨b=0:=by
  constructor
  · intro h
    by_cases ha:a=0
    · exact .inl ha
    · right
      have:=congrArg (BZ (FZ a)) h
      rwa [JR,← HQ,JP (FZ a),VJ ha,one_gmul] at this
  · rintro (rfl|rfl)
    · exact EU _
    · exact JR _
theorem u8of_nat (n:Nat):GP (n:Int)=UInt8.ofNat n:=by
  unfold GP
  rw [show ((n:Int) % 256).toNat=n % 256 by omega]
  exact UInt8.toNat_inj.1 (by simp)
open Go.Fw
theorem gmul_lc (a b c:UInt8):BZ a (BZ b c)=BZ b (BZ a c):=by rw [← HQ,JP a b,HQ]
theorem QG (x:UInt8):EG [] x=0:=rfl
theorem GD (c:UInt8) (l:List UInt8) (x:UInt8):EG (c :: l) x=BZ (EG l x) x ^^^ c:=rfl
theorem PN (i:Nat):([]:List UInt8)[i]! = 0:=rfl
theorem GS (c:UInt8) (l:List UInt8) (i:Nat):(c :: l)[i+1]! = l[i]!:=by simp
theorem DX {l:List UInt8} {i:Nat} (h:l.length≤i):l[i]! = 0:=by
  rw [getElem!_def,List.getElem?_eq_none h];rfl
theorem JZ:∀ (l:List UInt8),(∀ i:Nat,l[i]! = 0)→∀ x,EG l x=0
  | [],_,_=>rfl
  | c :: l,h,x=>by
    have h0:c=0:=h 0
    rw [GD,JZ l (fun i=>by have:=h (i+1);rwa [GS] at this) x,EU,h0];rfl
theorem JU:∀ (l m:List UInt8),(∀ i:Nat,l[i]! = m[i]!)→∀ x,EG l x=EG m x
  | [],m,h,x=>by rw [JZ m (fun i=>by rw [← h i];rfl) x];rfl
  | c :: l,[],h,x=>by rw [JZ (c :: l) (fun i=>by rw [h i];rfl) x];rfl
  | c :: l,d :: m,h,x=>by
    have h0:c=d:=h 0
    rw [GD,GD,JU l m (fun i=>by have:=h (i+1);rwa [GS,GS] at this) x,h0]
theorem QJ:∀ (l m r:List UInt8),(∀ i:Nat,r[i]! = l[i]! ^^^ m[i]!)→∀ x,EG r x=EG l x ^^^ EG m x
  | l,m,[],h,x=>by
    have h1:∀ i:Nat,l[i]! = m[i]!:=fun i=>KV.1 ((h i).symm.trans (PN i))
    rw [JU l m h1 x,xor_self];rfl
  | [],m,r,h,x=>by rw [JU r m (fun i=>by rw [h i,PN,zero_xor]) x,QG,zero_xor]
  | l,[],r,h,x=>by rw [JU r l (fun i=>by rw [h i,PN,xor_zero]) x,QG,xor_zero]
  | a :: l,b :: m,c :: r,h,x=>by
    have h0:c=a ^^^ b:=h 0
    rw [GD,GD,GD,QJ l m r (fun i=>by have:=h (i+1);rwa [GS,GS,GS] at this) x,QO,h0,xor4]
theorem pev_mul (k:UInt8):∀ (l r:List UInt8),(∀ i:Nat,r[i]! = BZ l[i]! k)→∀ x,EG r x=BZ (EG l x) k
  | l,[],h,x=>by
    by_cases hk:k=0
    · rw [hk,JR];rfl
    · rw [JZ l (fun i=>by
        have:=(h i).symm.trans (PN i)
        exact (MI.1 this).resolve_right hk) x,EU];rfl
  | [],r,h,x=>by rw [JZ r (fun i=>by rw [h i,PN,EU]) x,QG,EU]
  | a :: l,c :: r,h,x=>by
    have h0:c=BZ a k:=h 0
    rw [GD,GD,pev_mul k l r (fun i=>by have:=h (i+1);rwa [GS,GS] at this) x,QO,h0,HQ,JP k x,← HQ]
def sd (r:UInt8):List UInt8→List UInt8
  | []=>[]
  | _ :: l=>EG l r :: sd r l
theorem RB (r:UInt8):∀ (l:List UInt8) (i:Nat),(sd r l)[i]! = EG (l.drop (i+1)) r
  | [],i=>by rw [List.drop_nil];rfl
  | c :: l,0=>rfl
  | c :: l,i+1=>by rw [sd,GS,RB r l i];rfl
theorem SY (r x:UInt8):∀ (l:List UInt8),EG l x=BZ (x ^^^ r) (EG (sd r l) x) ^^^ EG l r
  | []=>by simp [sd,EG,JR]
  | c :: l=>by
    have ih:=SY r x l
    have e:BZ (EG l x) x=BZ (x ^^^ r) (EG (sd r (c :: l)) x) ^^^ BZ (EG l r) r:=by
      rw [ih]
      show _=BZ (x ^^^ r) (BZ (EG (sd r l) x) x ^^^ EG l r) ^^^ BZ (EG l r) r
      rw [QO,gmul_add (x ^^^ r),HQ,RX,QO x r (EG l r),RX,JP r (EG l r),xor_self,xor_zero,JP x (EG l r)]
    rw [GD,GD,e,RX]
theorem get_drop (l:List UInt8) (i j:Nat):(l.drop i)[j]! = l[i+j]!:=by
  rw [getElem!_def,getElem!_def,List.getElem?_drop]
theorem TM (l:List UInt8) (r:UInt8) (i:Nat):EG (l.drop i) r=BZ (EG (l.drop (i+1)) r) r ^^^ l[i]!:=by
  by_cases h:i<l.length
  · exact pev_drop h
  · rw [List.drop_eq_nil_of_le (by omega),List.drop_eq_nil_of_le (by omega),DX (by omega),QG,EU];rfl
theorem PG:∀ (xs:List UInt8),xs.Nodup→∀ (l:List UInt8),(∀ i:Nat,xs.length≤i→l[i]! = 0)→(∀ x∈xs,EG l x=0)→∀ i:Nat,l[i]! = 0
  | [],_,l,h,_=>fun i=>h i (Nat.zero_le _)
  | r :: xs,hn,l,h,hx=>by
    obtain ⟨hr,hn'⟩:=List.nodup_cons.1 hn
    have hpr:EG l r=0:=hx r (by simp)
    have hq:∀ i:Nat,(sd r l)[i]! = 0:=PG xs hn' (sd r l) (fun i hi=>by
        rw [RB]
        exact JZ _ (fun j=>by rw [get_drop];exact h _ (by simp;omega)) r) (fun x hxs=>by
        have h1:=SY r x l
        rw [hx x (by simp [hxs]),hpr,xor_zero] at h1
        rcases MI.1 h1.symm with h2|h2
        · exact absurd (KV.1 h2) (fun e=>hr (e ▸ hxs))
        · exact h2)
    intro i
    have hi:EG (l.drop i) r=0:=by
      cases i with
      | zero=>exact hpr
      | succ i=>rw [← RB];exact hq i
    have h2:=TM l r i
    rw [hi,← RB,hq i,EU,zero_xor] at h2
    exact h2.symm
theorem UV {xs:List UInt8} (hn:xs.Nodup) {l m:List UInt8} (hl:∀ i:Nat,xs.length≤i→l[i]! = 0) (hm:∀ i:Nat,xs.length≤i→m[i]! = 0) (h:∀ x∈xs,EG l x=EG m x):∀ i:Nat,l[i]! = m[i]!:=by
  intro i
  have hd:∃ d:List UInt8,∀ i:Nat,d[i]! = l[i]! ^^^ m[i]!:=by
    refine ⟨(List.range (max l.length m.length)).map fun i=>l[i]! ^^^ m[i]!,fun i=>?_⟩
    by_cases hi:i<max l.length m.length
    · rw [getElem!_pos _ i (by simpa using hi)];simp
    · rw [DX (by simpa using hi),DX (l:=l) (by omega),DX (l:=m) (by omega)];rfl
  obtain ⟨d,hd⟩:=hd
  have:=PG xs hn d (fun i hi=>by rw [hd,hl i hi,hm i hi];rfl) (fun x hx=>by rw [QJ l m d hd,h x hx,xor_self]) i
  rw [hd] at this
  exact KV.1 this
theorem SG {l m:List UInt8} (hlen:l.length=m.length) (h:∀ i:Nat,l[i]! = m[i]!):l=m:=by
  apply List.ext_getElem hlen
  intro i h1 h2
  have:=h i
  rwa [getElem!_pos l i h1,getElem!_pos m i h2] at this
open Go.Fw
theorem JN (l:List UInt8) (i:Nat) (v:UInt8) (j:Nat):(l.set i v)[j]! = if i=j∧i<l.length then v else l[j]!:=by
  rw [getElem!_def,List.getElem?_set,getElem!_def]
  by_cases h:i=j
  · subst h
    by_cases h2:i<l.length
    · simp [h2]
    · rw [if_pos rfl,if_neg h2,if_neg (fun h=>h2 h.2),List.getElem?_eq_none (by omega)]
  · rw [if_neg h,if_neg (fun h'=>h h'.1)]
theorem TE (l m:List UInt8) (i:Nat):(l++m)[i]! = if i<l.length then l[i]! else m[i - l.length]!:=by
  by_cases h:i<l.length
  · rw [if_pos h,getElem!_def,getElem!_def,List.getElem?_append_left h]
  · rw [if_neg h,getElem!_def,getElem!_def,List.getElem?_append_right (by omega)]
theorem UU (n i:Nat):(List.replicate n (0:UInt8))[i]! = 0:=by
  by_cases h:i<n
  · rw [getElem!_pos _ i (by simpa using h)];simp
  · exact DX (by simpa using h)
theorem JO (l:List UInt8) (k:UInt8) (i:Nat):(l.map (BZ · k))[i]! = BZ l[i]! k:=by
  by_cases h:i<l.length
  · rw [getElem!_pos _ i (by simpa using h),getElem!_pos _ i h];simp
  · rw [DX (by simpa using h),DX (by omega),EU]
theorem QN {l:List UInt8} {k:Nat} (x:UInt8):(l.take k).contains x=true↔∃ i,i<k∧i<l.length∧l[i]! = x:=by
  rw [List.contains_iff_mem,List.mem_iff_getElem?]
  constructor
  · rintro ⟨i,h⟩
    rw [List.getElem?_take] at h
    split at h
    · rename_i hk
      obtain ⟨h1,h2⟩:=List.getElem?_eq_some_iff.1 h
      exact ⟨i,hk,h1,by rw [getElem!_pos l i h1,h2]⟩
    · cases h
  · rintro ⟨i,hk,hl,h⟩
    exact ⟨i,by rw [List.getElem?_take,if_pos hk,List.getElem?_eq_getElem hl,← h,getElem!_pos l i hl]⟩
theorem LL {l:List UInt8}:l.Nodup↔∀ i j,i<j→j<l.length→l[i]!≠l[j]!:=by
  rw [List.nodup_iff_pairwise_ne,List.pairwise_iff_getElem]
  constructor
  · intro h i j hij hj
    rw [getElem!_pos l i (by omega),getElem!_pos l j hj];exact h i j (by omega) hj hij
  · intro h i j hi hj hij
    have:=h i j hij hj
    rwa [getElem!_pos l i hi,getElem!_pos l j hj] at this
theorem scan_false {f:Nat→Option Bool} (m i:Nat) (hf:∀ k,f k=none∨f k=some true):FG f false i m=false↔∀ k,i≤k→k<i+m→f k=none:=by
  induction m generalizing i with
  | zero=>exact ⟨fun _ k h1 h2=>by omega,fun _=>rfl⟩
  | succ m ih=>
    unfold FG
    rcases hf i with h|h
    · rw [h];simp only
      rw [ih (i+1)]
      constructor
      · intro h1 k hk hk2
        rcases Nat.lt_or_eq_of_le hk with h3|h3
        · exact h1 k (by omega) (by omega)
        · exact h3 ▸ h
      · intro h1 k hk hk2;exact h1 k (by omega) (by omega)
    · rw [h];simp only
      constructor
      · intro e;cases e
      · intro h1;rw [h1 i (Nat.le_refl _) (by omega)] at h;cases h
theorem scan_true {f:Nat→Option Bool} (m i:Nat) (hf:∀ k,f k=none∨f k=some false):FG f true i m=true↔∀ k,i≤k→k<i+m→f k=none:=by
  induction m generalizing i with
  | zero=>exact ⟨fun _ k h1 h2=>by omega,fun _=>rfl⟩
  | succ m ih=>
    unfold FG
    rcases hf i with h|h
    · rw [h];simp only
      rw [ih (i+1)]
      constructor
      · intro h1 k hk hk2
        rcases Nat.lt_or_eq_of_le hk with h3|h3
        · exact h1 k (by omega) (by omega)
        · exact h3 ▸ h
      · intro h1 k hk hk2;exact h1 k (by omega) (by omega)
    · rw [h];simp only
      constructor
      · intro e;cases e
      · intro h1;rw [h1 i (Nat.le_refl _) (by omega)] at h;cases h
theorem RL (xs ys:List UInt8):FN xs ys=false↔xs.length=ys.length∧xs.Nodup:=by
  unfold FN twice
  by_cases e:xs.length=ys.length
  · rw [if_neg (by simp;omega)]
    rw [scan_false _ _ (fun k=>by split <;> simp),LL]
    constructor
    · intro h
      refine ⟨e,fun i j hij hj hx=>?_⟩
      have:=h j (Nat.zero_le _) (by omega)
      rw [if_pos ((QN _).2 ⟨i,hij,by omega,hx⟩)] at this;cases this
    · rintro ⟨_,h⟩ k _ hk
      rw [if_neg]
      intro hc
      obtain ⟨i,hi,hl,hx⟩:=(QN _).1 hc
      exact h i k hi (by omega) hx
  · rw [if_pos (by simp;omega)];simp [e]
structure Thr (xs ys l:List UInt8):Prop where
  len:l.length=xs.length
  at_:∀ i,i<xs.length→EG l xs[i]! = ys[i]!
theorem Thr.unique {xs ys l m:List UInt8} (hn:xs.Nodup) (h:Thr xs ys l) (hm:∀ i:Nat,xs.length≤i→m[i]! = 0) (hv:∀ i,i<xs.length→EG m xs[i]! = ys[i]!):∀ i:Nat,l[i]! = m[i]!:=
  UV hn (fun i hi=>DX (by rw [h.len];exact hi)) hm (fun x hx=>by
    obtain ⟨i,hi,rfl⟩:=List.getElem_of_mem hx
    have h1:=h.at_ i hi
    have h2:=hv i hi
    rw [getElem!_pos xs i hi] at h1 h2
    rw [h1,h2])
theorem zrS_get (p:List UInt8) (x:UInt8):∀ j,j≤p.length→∀ i:Nat,(IN p x j)[i]! = if p.length - j≤i∧i<p.length then BZ p[i]! x ^^^ (if 0<i then p[i - 1]! else 0) else p[i]!
  | 0,_,i=>by rw [IN,if_neg (by omega)]
  | j+1,h,i=>by
    have ih:=zrS_get p x j (by omega)
    have hl:=GB p x j
    unfold IN
    simp only
    by_cases h1:p.length - 1 - j=i
    · subst h1
      by_cases h0:0<p.length - 1 - j
      · rw [if_pos h0]
        rw [JN,List.length_set,hl,if_pos ⟨rfl,by omega⟩,JN,hl,if_pos ⟨rfl,by omega⟩,JN,if_neg (by omega),ih,ih,if_neg (by omega),if_neg (by omega),if_pos ⟨by omega,by omega⟩,if_pos h0]
      · rw [if_neg h0]
        rw [JN,hl,if_pos ⟨rfl,by omega⟩,ih,if_neg (by omega),if_pos ⟨by omega,by omega⟩,if_neg h0,xor_zero]
    · have e:∀ v u:UInt8,(if 0<p.length - 1 - j then ((IN p x j).set (p.length - 1 - j) v).set (p.length - 1 - j) u else (IN p x j).set (p.length - 1 - j) v)[i]! = (IN p x j)[i]!:=fun v u=>by
        split
        · rw [JN,if_neg (by omega),JN,if_neg (by omega)]
        · rw [JN,if_neg (by omega)]
      rw [e,ih]
      by_cases h2:p.length - j≤i∧i<p.length
      · rw [if_pos h2,if_pos (show p.length - (j+1)≤i∧i<p.length by omega)]
      · rw [if_neg h2,if_neg (by omega)]
theorem zrO_get (xs:List UInt8) (k i:Nat):(GW xs (k+1))[i]! = BZ (GW xs k)[i]! xs[k]! ^^^ (if 0<i then (GW xs k)[i - 1]! else 0):=by
  have hl:=EV xs k
  have e:∀ i:Nat,(GW xs k++[0])[i]! = (GW xs k)[i]!:=fun i=>by
    rw [TE]
    by_cases h:i<(GW xs k).length
    · rw [if_pos h]
    · rw [if_neg h,DX (l:=GW xs k) (by omega)]
      by_cases h2:i=(GW xs k).length
      · subst h2;rw [Nat.sub_self];rfl
      · exact DX (by simp;omega)
  rw [GW,zrS_get _ _ _ (Nat.le_refl _) i,e,e]
  by_cases h:i<(GW xs k++[0]).length
  · rw [if_pos ⟨by omega,h⟩]
  · rw [if_neg (by omega)]
    simp only [List.length_append,List.length_singleton] at h
    rw [DX (l:=GW xs k) (by omega),EU]
    split
    · rw [DX (l:=GW xs k) (by omega)];rfl
    · rfl
theorem zrO_pev (xs:List UInt8) (k:Nat) (x:UInt8):EG (GW xs (k+1)) x=BZ (EG (GW xs k) x) (x ^^^ xs[k]!):=by
  have h1:EG ((GW xs k).map (BZ · xs[k]!)) x=BZ (EG (GW xs k) x) xs[k]!:=pev_mul _ _ _ (fun i=>JO _ _ i) x
  have h2:EG (0 :: GW xs k) x=BZ (EG (GW xs k) x) x:=by rw [GD,xor_zero]
  rw [QJ ((GW xs k).map (BZ · xs[k]!)) (0 :: GW xs k) (GW xs (k+1)) (fun i=>by
    rw [zrO_get,JO]
    congr 1
    cases i with
    | zero=>rfl
    | succ i=>rw [GS,if_pos (by omega)];rfl) x,h1,h2,← gmul_add,xor_c]
theorem zrO_lead (xs:List UInt8):∀ k,(GW xs k)[k]! = 1
  | 0=>rfl
  | k+1=>by
    rw [zrO_get,DX (l:=GW xs k) (by rw [EV];omega),EU,zero_xor,if_pos (by omega)]
    exact zrO_lead xs k
theorem UR {xs:List UInt8} {j:Nat}:∀ k,j<k→EG (GW xs k) xs[j]! = 0
  | 0,h=>by omega
  | k+1,h=>by
    rw [zrO_pev]
    by_cases hj:j=k
    · subst hj;rw [xor_self,JR]
    · rw [UR k (by omega),EU]
theorem sdC_eq {p:List UInt8} {x:UInt8} {n:Nat} (hp:p.length=n+1):∀ j,j≤n→SO p x n j=EG (p.drop (n+1 - j)) x
  | 0,_=>by rw [Nat.sub_zero,← hp,List.drop_length];rfl
  | j+1,h=>by
    unfold SO
    rw [sdC_eq hp j (by omega),TM p x (n+1 - (j+1)),show n+1 - (j+1)+1=n+1 - j by omega,xor_c,show n - 1 - j+1=n+1 - (j+1) by omega]
theorem sdQ_get {q0 p:List UInt8} {x:UInt8} {n:Nat} (hq:q0.length=n):∀ j,j≤n→∀ i:Nat,(HA q0 p x n j)[i]! = if n - j≤i∧i<n then SO p x n (n - i) else q0[i]!
  | 0,_,i=>by rw [HA,if_neg (by omega)]
  | j+1,h,i=>by
    unfold HA
    rw [JN,IC,sdQ_get hq j (by omega)]
    by_cases h1:n - 1 - j=i
    · rw [if_pos ⟨h1,by omega⟩,if_pos (by omega)];congr 1;omega
    · rw [if_neg (by omega)]
      by_cases h2:n - j≤i∧i<n
      · rw [if_pos h2,if_pos (by omega)]
      · rw [if_neg h2,if_neg (by omega)]
theorem sdQ_eq {q0 p:List UInt8} {x:UInt8} {n:Nat} (hq:q0.length=n) (hp:p.length=n+1):∀ i:Nat,(HA q0 p x n n)[i]! = (sd x p)[i]!:=by
  intro i
  rw [sdQ_get hq n (Nat.le_refl _),RB]
  by_cases h:i<n
  · rw [if_pos (by omega),sdC_eq hp _ (by omega),show n+1 - (n - i)=i+1 by omega]
  · rw [if_neg (by omega),DX (by omega),List.drop_eq_nil_of_le (by omega)];rfl
theorem adF_get (l q:List UInt8) (f:UInt8):∀ k,k≤l.length→∀ i:Nat,(adF l q f k)[i]! = l[i]! ^^^ (if i<k then BZ q[i]! f else 0)
  | 0,_,i=>by simp [adF]
  | k+1,h,i=>by
    have ih:=adF_get l q f k (by omega)
    simp only [adF,JN,IB,ih]
    by_cases h1:k=i
    · subst h1;rw [if_pos (by simp;omega),if_neg (by omega),if_pos (by omega),xor_zero]
    · rw [if_neg (by omega)]
      congr 1
      by_cases h3:i<k
      · rw [if_pos h3,if_pos (by omega)]
      · rw [if_neg h3,if_neg (by omega)]
theorem pev_adF {l q:List UInt8} {f:UInt8} {n:Nat} (hl:l.length=n) (hq:q.length=n) (x:UInt8):EG (adF l q f n) x=EG l x ^^^ BZ (EG q x) f:=by
  rw [QJ l (q.map (BZ · f)) _ (fun i=>by
    rw [adF_get l q f _ (by omega) i,JO]
    by_cases h3:i<n
    · rw [if_pos h3]
    · rw [if_neg h3,DX (l:=q) (by omega),EU]) x,pev_mul f q _ (fun i=>JO q f i) x]
theorem coQ_pev {xs:List UInt8} {i:Nat} (hi:i<xs.length) (x:UInt8):EG (GK (BF xs) xs xs.length (i+1)) x=EG (sd xs[i]! (BF xs)) x:=
  JU _ _ (fun j=>by rw [GK];exact sdQ_eq (GY _ _ _ _) (FE xs) j) x
theorem WD {xs:List UInt8} (hn:xs.Nodup) {i j:Nat} (hi:i<xs.length) (hj:j<xs.length) (hij:j≠i):EG (GK (BF xs) xs xs.length (i+1)) xs[j]! = 0:=by
  rw [coQ_pev hi]
  have h1:=SY xs[i]! xs[j]! (BF xs)
  rw [show EG (BF xs) xs[j]! = 0 from UR _ hj,show EG (BF xs) xs[i]! = 0 from UR _ hi,xor_zero] at h1
  rcases MI.1 h1.symm with h2|h2
  · rw [KV] at h2
    rcases Nat.lt_or_gt_of_ne hij with h3|h3
    · exact absurd h2 (LL.1 hn j i h3 hi)
    · exact absurd h2.symm (LL.1 hn i j h3 hj)
  · exact h2
theorem coQ_self {xs:List UInt8} (hn:xs.Nodup) {i:Nat} (hi:i<xs.length):EG (GK (BF xs) xs xs.length (i+1)) xs[i]!≠0:=by
  intro e
  have hz:=PG xs hn (GK (BF xs) xs xs.length (i+1)) (fun j hj=>DX (by rw [GY];exact hj)) (fun x hx=>by
    obtain ⟨j,hj,rfl⟩:=List.getElem_of_mem hx
    by_cases hji:j=i
    · subst hji;rw [getElem!_pos xs j hj] at e;exact e
    · have:=WD hn hi hj hji
      rwa [getElem!_pos xs j hj] at this) (xs.length - 1)
  rw [GK,sdQ_eq (GY _ _ _ _) (FE xs),RB,show xs.length - 1+1=xs.length by omega,TM,List.drop_eq_nil_of_le (by rw [FE];omega),QG,EU,zero_xor] at hz
  rw [BF,zrO_lead] at hz
  exact absurd hz (by decide)
theorem coL_at {xs ys:List UInt8} (hn:xs.Nodup) {j:Nat} (hj:j<xs.length):∀ i,i≤xs.length→EG (OS (BF xs) xs ys xs.length i) xs[j]! = if j<i then ys[j]! else 0
  | 0,_=>by simp only [OS];rw [JZ _ (UU _)];rfl
  | i+1,h=>by
    unfold OS
    rw [pev_adF (HK _ _ _ _ _) (GY _ _ _ _),coL_at hn hj i (by omega)]
    by_cases hji:j=i
    · subst hji
      rw [if_neg (by omega),if_pos (by omega),zero_xor,gmul_lc,VJ (coQ_self hn hj),TA]
    · rw [WD hn (by omega) hj hji,EU,xor_zero]
      by_cases h1:j<i
      · rw [if_pos h1,if_pos (by omega)]
      · rw [if_neg h1,if_neg (by omega)]
theorem co_thr {xs ys:List UInt8} (hn:xs.Nodup):Thr xs ys (OS (BF xs) xs ys xs.length xs.length):=
  ⟨HK _ _ _ _ _,fun i hi=>by rw [coL_at hn hi _ (Nat.le_refl _),if_pos hi]⟩
theorem PM {xs ys:List UInt8} (h:FN xs ys=false):(EL xs ys).2=0∧Thr xs ys (EL xs ys).1∧xs.length=ys.length∧xs.Nodup:=by
  have h':=(RL xs ys).1 h
  unfold EL;rw [h]
  exact ⟨rfl,co_thr h'.2,h'⟩
theorem coeff_bad {xs ys:List UInt8} (h:FN xs ys=true):EL xs ys=([],1):=by unfold EL;rw [h];rfl
theorem through_ok {xs ys:List UInt8} (at_:UInt8) (h:FN xs ys=false):DB xs ys at_=(EG (EL xs ys).1 at_,0):=by
  unfold DB;rw [(PM h).1];rfl
open Go.Fw
def tab (n:Nat) (f:Nat→UInt8):List UInt8:=(List.range n).map f
theorem NW (n:Nat) (f:Nat→UInt8):(tab n f).length=n:=by simp [tab]
theorem LG (n:Nat) (f:Nat→UInt8) (i:Nat):(tab n f)[i]! = if i<n then f i else 0:=by
  by_cases h:i<n
  · rw [if_pos h,getElem!_pos _ i (by rw [NW];exact h)];simp [tab]
  · rw [if_neg h,DX (by rw [NW];omega)]
open Go.Fw
theorem MF {β:Type} {f:Nat→Option β} {d r:β} (hf:∀ k,f k=none∨f k=some r):∀ (m i:Nat),(FG f d i m=d∧∀ k,i≤k→k<i+m→f k=none)∨(FG f d i m=r∧∃ k,i≤k∧k<i+m∧f k=some r)
  | 0,i=>.inl ⟨rfl,fun k h1 h2=>by omega⟩
  | m+1,i=>by
    unfold FG
    rcases hf i with h|h
    · rw [h]
      rcases MF (d:=d) hf m (i+1) with ⟨h1,h2⟩|⟨h1,k,h2,h3,h4⟩
      · refine .inl ⟨h1,fun k hk hk2=>?_⟩
        rcases Nat.lt_or_eq_of_le hk with h3|h3
        · exact h2 k (by omega) (by omega)
        · exact h3 ▸ h
      · exact .inr ⟨h1,k,by omega,by omega,h4⟩
    · rw [h];exact .inr ⟨rfl,i,Nat.le_refl _,by omega,h⟩
theorem mulb {a b:Int} (ha:0≤a) (ha':a≤1000000) (hb:0≤b) (hb':b≤1000000):-9223372036854775808≤a*b∧a*b≤9223372036854775807:=by
  have h1:a*b≤1000000*1000000:=Int.mul_le_mul ha' hb' hb (by omega)
  have h2:=Int.mul_nonneg ha hb
  omega
theorem mulbN {a b:Nat} (ha:a≤1000000) (hb:b≤1000000):-9223372036854775808≤((a*b:Nat):Int)∧((a*b:Nat):Int)≤9223372036854775807:=by
  have h1:a*b≤1000000*1000000:=Nat.mul_le_mul ha hb
  omega
def RP (f:Share):Bool:=((decide (f.threshold<1) || decide (f.many<f.threshold)) || decide (8<f.many)) || decide (64<(f.data.length:Int))
def NR (f s:Share):Bool:=(s.threshold != f.threshold || s.many != f.many) || ((s.data.length:Int) != (f.data.length:Int))
def HY (l:List Share) (k:Nat):Int:=if k=0 then 0 else l[k - 1]!.index
def alIdx (f s:Share) (last:Int):Bool:=decide (s.index≤last) || decide (f.many<s.index)
def EP (l:List Share):Bool:=if (l.length:Int) == 0 then false else if RP l[0]! then false else
  FG (fun k=>if NR l[0]! l[k]! then some false else if alIdx l[0]! l[k]! (HY l k) then some false else none) true 0 (l.length - 0)
def alRef (l:List Share) (k:Nat):Bool:=((((NR l[0]! l[k]!) || decide (l[k]!.index<1)) || decide (l[0]!.many<l[k]!.index)) || (decide (0<(k:Int)) && decide (l[k]!.index≤l[k - 1]!.index)))
def refAlikeM (l:List Share):Bool:=if (l.length:Int) == 0 then false else if RP l[0]! then false else FG (fun k=>if alRef l k then some false else none) true 0 (l.length - 0)
def ep1 (l:List Share) (k:Nat):Bool:=(l[k]!.epoch != l[0]!.epoch || decide (l[k]!.epoch<0)) || decide (1048576<l[k]!.epoch)
def BP (l:List Share):Int:=if !EP l then 80 else FG (fun k=>if ep1 l k then some 81 else none) 0 0 (l.length - 0)
def VX (l:List Share):Int:=if !refAlikeM l then 80 else FG (fun k=>if ep1 l k then some 81 else none) 0 0 (l.length - 0)
theorem UT:(∀ a b:Bool,((a || b)=true)=(a=true∨b=true))∧(∀ a b:Bool,((a && b)=true)=(a=true∧b=true))∧(∀ b:Bool,(¬ b=true)=(b=false))
    ∧(∀ a b:Bool,((a || b)=false)=(a=false∧b=false))∧(∀ a b:Bool,((a && b)=false)=(a=false∨b=false))
    ∧(∀ (α:Type) [BEq α] [LawfulBEq α] (a b:α),((a != b)=true)=(a≠b))∧(∀ (α:Type) [BEq α] [LawfulBEq α] (a b:α),((a == b)=true)=(a=b))
    ∧(∀ (α:Type) [BEq α] [LawfulBEq α] (a b:α),((a != b)=false)=(a=b))∧(∀ (α:Type) [BEq α] [LawfulBEq α] (a b:α),((a == b)=false)=(a≠b))
    ∧(∀ (p:Prop) [Decidable p],(decide p=true)=p)∧(∀ (p:Prop) [Decidable p],(decide p=false) = ¬ p)
    ∧(∀ (α:Type) (a b:α),(a≠b) = ¬ a=b)∧(∀ b:Bool,((!b)=true)=(b=false))∧(∀ b:Bool,((!b)=false)=(b=true))∧((!true)=false)∧((!false)=true)
    ∧((false=true)=False)∧((¬ True)=False)∧((¬ False)=True)
    ∧(∀ f:Share,RP f=(((decide (f.threshold<1) || decide (f.many<f.threshold)) || decide (8<f.many)) || decide (64<(f.data.length:Int))))
    ∧(∀ f s:Share,NR f s=((s.threshold != f.threshold || s.many != f.many) || ((s.data.length:Int) != (f.data.length:Int))))
    ∧(∀ (f s:Share) (last:Int),alIdx f s last=(decide (s.index≤last) || decide (f.many<s.index)))
    ∧(∀ (l:List Share) (k:Nat),alRef l k=((((NR l[0]! l[k]!) || decide (l[k]!.index<1)) || decide (l[0]!.many<l[k]!.index)) || (decide (0<(k:Int)) && decide (l[k]!.index≤l[k - 1]!.index))))
    ∧(∀ (l:List Share) (k:Nat),ep1 l k=((l[k]!.epoch != l[0]!.epoch || decide (l[k]!.epoch<0)) || decide (1048576<l[k]!.epoch))):=
  ⟨dbs.1,dbs.2.1,dbs.2.2.1,dbs.2.2.2.1,dbs.2.2.2.2.1,dbs.2.2.2.2.2.1,dbs.2.2.2.2.2.2.1,dbs.2.2.2.2.2.2.2.1,dbs.2.2.2.2.2.2.2.2.1,dbs.2.2.2.2.2.2.2.2.2.1,dbs.2.2.2.2.2.2.2.2.2.2.1,dbs.2.2.2.2.2.2.2.2.2.2.2.1,dbs.2.2.2.2.2.2.2.2.2.2.2.2.1,dbs.2.2.2.2.2.2.2.2.2.2.2.2.2.1,dbs.2.2.2.2.2.2.2.2.2.2.2.2.2.2.1,dbs.2.2.2.2.2.2.2.2.2.2.2.2.2.2.2.1,dbs.2.2.2.2.2.2.2.2.2.2.2.2.2.2.2.2.1,dbs.2.2.2.2.2.2.2.2.2.2.2.2.2.2.2.2.2.1,dbs.2.2.2.2.2.2.2.2.2.2.2.2.2.2.2.2.2.2,fun _=>rfl,fun _ _=>rfl,fun _ _ _=>rfl,fun _ _=>rfl,fun _ _=>rfl⟩
structure Good (l:List Share):Prop where
  pos:0<l.length
  t1:1≤l[0]!.threshold
  tm:l[0]!.threshold≤l[0]!.many
  m8:l[0]!.many≤8
  d64:l[0]!.data.length≤64
  th:∀ k,k<l.length→l[k]!.threshold=l[0]!.threshold
  ma:∀ k,k<l.length→l[k]!.many=l[0]!.many
  da:∀ k,k<l.length→l[k]!.data.length=l[0]!.data.length
  ix:∀ k,k<l.length→1≤l[k]!.index∧l[k]!.index≤l[0]!.many
  inc:∀ k,k+1<l.length→l[k]!.index<l[k+1]!.index
theorem Good.mono {l:List Share} (h:Good l):∀ (j i:Nat),i<j→j<l.length→l[i]!.index<l[j]!.index
  | 0,i,hi,_=>by omega
  | j+1,i,hi,hj=>by
    have:=h.inc j hj
    by_cases hij:i=j
    · subst hij;exact this
    · have:=h.mono j i (by omega) (by omega);omega
theorem TZ (f:Share):RP f=false↔1≤f.threshold∧f.threshold≤f.many∧f.many≤8∧f.data.length≤64:=by
  unfold RP;simp only [Bool.or_eq_false_iff,decide_eq_false_iff_not];omega
theorem LY (f s:Share):NR f s=false↔s.threshold=f.threshold∧s.many=f.many∧s.data.length=f.data.length:=by
  unfold NR;simp only [Bool.or_eq_false_iff,bne_eq_false_iff_eq];omega
theorem RK (l:List Share):EP l=true↔Good l:=by
  unfold EP
  by_cases h0:l.length=0
  · rw [if_pos (by simp;exact List.eq_nil_of_length_eq_zero h0)]
    exact ⟨fun h=>(by cases h),fun h=>by have:=h.pos;omega⟩
  rw [if_neg (by simp;intro h;subst h;simp at h0)]
  cases h1:RP l[0]! with
  | true=>
    simp only [if_true]
    refine ⟨fun h=>by simp at h,fun h=>?_⟩
    have:=(TZ l[0]!).2 ⟨h.t1,h.tm,h.m8,h.d64⟩
    rw [this] at h1;cases h1
  | false=>
    simp only [Bool.false_eq_true,if_false]
    obtain ⟨a1,a2,a3,a4⟩:=(TZ _).1 h1
    rw [scan_true _ _ (fun k=>by split;simp;split <;> simp)]
    constructor
    · intro h
      have key:∀ k,k<l.length→(NR l[0]! l[k]! = false)∧(HY l k<l[k]!.index∧l[k]!.index≤l[0]!.many):=fun k hk=>by
        have:=h k (Nat.zero_le _) (by omega)
        split at this
        · cases this
        · rename_i hd
          split at this
          · cases this
          · rename_i hi
            refine ⟨by simpa using hd,?_⟩
            unfold alIdx at hi;simp only [Bool.or_eq_true,decide_eq_true_eq,not_or] at hi;omega
      have hix:∀ k,k<l.length→1≤l[k]!.index:=fun k=>by
        induction k with
        | zero=>intro hk;have:=(key 0 hk).2.1;unfold HY at this;rw [if_pos rfl] at this;omega
        | succ k ih=>intro hk;have:=(key _ hk).2.1;have h2:=ih (by omega);unfold HY at this;rw [if_neg (by omega)] at this;simp only [Nat.add_sub_cancel] at this;omega
      exact ⟨by omega,a1,a2,a3,a4,fun k hk=>((LY _ _).1 (key k hk).1).1,fun k hk=>((LY _ _).1 (key k hk).1).2.1,fun k hk=>((LY _ _).1 (key k hk).1).2.2,fun k hk=>⟨hix k hk,(key k hk).2.2⟩,fun k hk=>by
        have:=(key _ hk).2.1;unfold HY at this;rw [if_neg (by omega)] at this;simpa using this⟩
    · intro h k _ hk
      rw [if_neg,if_neg]
      · unfold alIdx;simp only [Bool.or_eq_true,decide_eq_true_eq,not_or]
        have h1:=h.ix k (by omega)
        unfold HY
        cases k with
        | zero=>simp only [if_true];omega
        | succ k=>rw [if_neg (by omega)];have:=h.inc k (by omega);simp only [Nat.add_sub_cancel];omega
      · have:=(LY l[0]! l[k]!).2 ⟨h.th k (by omega),h.ma k (by omega),h.da k (by omega)⟩
        rw [this];simp
structure Vd (l:List Share):Prop extends Good l where
  ep:∀ k,k<l.length→l[k]!.epoch=l[0]!.epoch
  ep0:0≤l[0]!.epoch
  ep1:l[0]!.epoch≤1048576
theorem SN (l:List Share) (k:Nat):ep1 l k=false↔l[k]!.epoch=l[0]!.epoch∧0≤l[k]!.epoch∧l[k]!.epoch≤1048576:=by
  unfold ep1;simp only [Bool.or_eq_false_iff,bne_eq_false_iff_eq,decide_eq_false_iff_not];omega
theorem EN (l:List Share):BP l=0↔Vd l:=by
  unfold BP
  cases ha:EP l with
  | false=>
    simp only [Bool.not_false,if_true]
    exact ⟨fun h=>by omega,fun h=>by rw [(RK l).2 h.toGood] at ha;cases ha⟩
  | true=>
    have hg:=(RK l).1 ha
    simp only [Bool.not_true,Bool.false_eq_true,if_false]
    rcases MF (f:=fun k=>if ep1 l k then some (81:Int) else none) (d:=(0:Int)) (r:=81) (fun k=>by split <;> simp) (l.length - 0) 0 with ⟨h1,h2⟩|⟨h1,k,h2,h3,h4⟩
    · rw [h1]
      have key:∀ k,k<l.length→ep1 l k=false:=fun k hk=>by
        have:=h2 k (Nat.zero_le _) (by omega)
        split at this
        · cases this
        · rename_i h;simpa using h
      refine ⟨fun _=>⟨hg,fun k hk=>((SN l k).1 (key k hk)).1,((SN l 0).1 (key 0 hg.pos)).2.1,((SN l 0).1 (key 0 hg.pos)).2.2⟩,fun _=>rfl⟩
    · rw [h1]
      refine ⟨fun h=>by omega,fun h=>?_⟩
      have:=(SN l k).2 ⟨h.ep k (by omega),by rw [h.ep k (by omega)];exact h.ep0,by rw [h.ep k (by omega)];exact h.ep1⟩
      simp only [this] at h4;cases h4
theorem check_cases (l:List Share):BP l=0∨BP l=80∨BP l=81:=by
  unfold BP
  split
  · simp
  · rcases MF (f:=fun k=>if ep1 l k then some (81:Int) else none) (d:=(0:Int)) (r:=81) (fun k=>by split <;> simp) (l.length - 0) 0 with ⟨h1,_⟩|⟨h1,_⟩ <;> rw [h1] <;> simp
theorem ext_getS {α:Type} [Inhabited α] {l m:List α} (hlen:l.length=m.length) (h:∀ i:Nat,i<l.length→l[i]! = m[i]!):l=m:=by
  apply List.ext_getElem hlen
  intro i h1 h2
  have:=h i h1
  rwa [getElem!_pos l i h1,getElem!_pos m i h2] at this
def OZ (l:List Share):Bool:=FG (fun k=>if 70<(l[k]!.data.length:Int) then some false else none) (decide ((l.length:Int)≤10)) 0 (l.length - 0)
open Go.Fw Go.RowKit
set_option maxHeartbeats 4000000 in
set_option maxRecDepth 100000 in
theorem c_alike {O:List Nat} (l_v:Value) (l:List Share) (w:World) (h_l:BG Enc.share w O l_v l) (hO:∀ b∈O,b<w.heap.size):CF Try.prog 88 [l_v] w (fun v _=>v = .bool (EP l)):= by
 have lim_l:=h_l.len_le
 have h_l:BG Enc.share w ([]++O) l_v l:=h_l
 have s0:St w O w []:=St.start hO
 refine BQ 75 Try.func88 rfl rfl oT (fun F0=>?_)
 refine AG (?_)
 refine AB kR (AA (AD (vO false) rfl (AF (AC (?_)))))
 refine AG (?_)
 refine AG (?_)
 refine AB kR (AA (AE (l_v) rfl (AA (CG U32_ rfl h_l (AA (EI .i64 (l.length:Int) (0:Int) rfl rfl (AF (AC (?_)))))))))
 refine AO ((l.length:Int) == (0:Int)) rfl rfl (fun hc701=>?_) (fun hc701=>?_)
 ·have hp702:(l.length:Int)=(0:Int):=by simpa using hc701
  refine AG (?_)
  refine AB kR (AA (AD (vO false) rfl (AF (AC (?_)))))
  refine AP (AR (AZ rfl (CS rfl rfl rfl) (?_)))
  have e:(EP l)=false:=by (unfold EP;((repeat ((refine (if_pos ?_).trans ?_;omega)));rfl))
  exact ⟨_,rfl,s0.keep,(by exact congrArg vO e.symm)⟩
 ·have hp703:(l.length:Int)≠(0:Int):=by simpa using hc701
  refine AU (AC (?_))
  refine AG (?_)
  refine AB kR (AA (AE (l_v) rfl (AA (DI U32_ DM .i64 (0:Int) 0 rfl rfl rfl h_l oM fun a704 hp705=>(AA (CR U70_ rfl DM rfl hp705 fun cs706 hs707=>(AA (CX [vI 0,vI 0,vI 0,vI 0,nS] MT rfl s0 fun b708 w709 e714 s710 m711 k712 bx713=>(?_)))))))))
  clear e714
  have h_l:=h_l.mv m711
  have hs707:Enc.share.rd w709 ((b708 :: [])++O) cs706 (l[0]!):=Enc.mv Enc.share (x:=l[0]!) hs707 m711
  obtain ⟨d720,rfl,hd721⟩:=hs707
  have:=hd721.len_le
  refine BY (BC (vs:=[vI ((l[0]!).epoch),vI ((l[0]!).index),vI ((l[0]!).threshold),vI ((l[0]!).many),d720]) (.agg #[vI ((l[0]!).epoch),vI ((l[0]!).index),vI ((l[0]!).threshold),vI ((l[0]!).many),d720]) rfl rfl rfl DM (fun u hu=>by simp only [List.mem_cons,List.not_mem_nil,or_false] at hu;rcases hu with rfl|rfl|rfl|rfl|rfl <;> first|rfl|exact hd721.oneCell) (by repeat (constructor)) bx713 oT s710 fun w715 s716 m717 k718 bx719=>(?_))
  have h_l:=h_l.mv m717
  have hd721:=hd721.mv m717
  refine AA (AD (vI 0) rfl (AF (AC (?_))))
  refine AG (?_)
  refine AG (?_)
  refine AB kR (AA (BD 2 KL rfl (AA (BI U3_ rfl (vI ((l[0]!).threshold)) rfl bx719 rfl (AA (DW .i64 ((l[0]!).threshold) (1:Int) rfl rfl (AA (AE (vO (decide ((l[0]!).threshold<(1:Int)))) rfl (?_)))))))))
  cases hb722:(decide ((l[0]!).threshold<(1:Int)))
  ·have hp723:(1:Int)≤(l[0]!).threshold:=by simpa using hb722
   refine BE rfl (BD 2 KL rfl (BE rfl (BI U3_ rfl (vI ((l[0]!).threshold)) rfl bx719 rfl (BE rfl (BD 3 KK rfl (BE rfl (BI U3_ rfl (vI ((l[0]!).many)) rfl bx719 rfl (BE rfl (FW .i64 ((l[0]!).threshold) ((l[0]!).many) rfl rfl (AA (BX (vO (decide ((l[0]!).many<(l[0]!).threshold))) rfl rfl (AA (AE (vO (decide ((l[0]!).many<(l[0]!).threshold))) rfl (?_))))))))))))))
   cases hb724:(decide ((l[0]!).many<(l[0]!).threshold))
   ·have hp725:(l[0]!).threshold≤(l[0]!).many:=by simpa using hb724
    refine BE rfl (BD 3 KK rfl (BE rfl (BI U3_ rfl (vI ((l[0]!).many)) rfl bx719 rfl (BE rfl (FW .i64 ((l[0]!).many) (8:Int) rfl rfl (AA (BX (vO (decide ((8:Int)<(l[0]!).many))) rfl rfl (AA (AE (vO (decide ((8:Int)<(l[0]!).many))) rfl (?_))))))))))
    cases hb726:(decide ((8:Int)<(l[0]!).many))
    ·have hp727:(l[0]!).many≤(8:Int):=by simpa using hb726
     refine BE rfl (BD 4 GM rfl (BE rfl (BI U23_ rfl (d720) rfl bx719 rfl (BE rfl (CG U23_ rfl hd721 (BE rfl (FW .i64 (((l[0]!).data).length:Int) (64:Int) rfl rfl (AA (BX (vO (decide ((64:Int)<(((l[0]!).data).length:Int)))) rfl rfl (AF (AC (?_))))))))))))
     refine AO (decide ((64:Int)<(((l[0]!).data).length:Int))) rfl rfl (fun hc728=>?_) (fun hc728=>?_)
     ·have hp729:(64:Int)<(((l[0]!).data).length:Int):=by simpa using hc728
      refine AG (?_)
      refine AB kR (AA (AD (vO false) rfl (AF (AC (?_)))))
      refine AP (AR (AZ rfl (CS rfl rfl rfl) (?_)))
      have e:(EP l)=false:=by (unfold EP;((repeat (first|(refine (if_pos ?_).trans ?_;solve|(simp only [UT];omega))|(refine (if_neg ?_).trans ?_;solve|(simp only [UT];omega))));rfl))
      exact ⟨_,rfl,s716.keep,(by exact congrArg vO e.symm)⟩
     ·have hp730:(((l[0]!).data).length:Int)≤(64:Int):=by simpa using hc728
      refine AU (AC (?_))
      refine AG (?_)
      refine AG (?_)
      refine AB kR (AA (AE (l_v) rfl (AA (CG U32_ rfl h_l (AA (AE (vI 0) rfl (AF (AC (?_)))))))))
      refine BR (?_)
      refine DH (fun mI FI wI=>∃ (k:Nat) (B:List Nat),k≤l.length∧EP l=FG (fun k=>if NR l[0]! l[k]! then some false else if alIdx l[0]! l[k]! (HY l k) then some false else none) true k (l.length - k)∧mI=l.length - k∧(∃ F1,FI=FT F1 [(3,vP (some ⟨b708,0,none⟩)),(4,vI (HY l k)),(34,l_v),(35,vI (l.length:Int)),(36,vI ((k:Nat):Int)),(75,undef)])∧St w O wI B∧BG Enc.share wI (B++O) (l_v) (l)∧BG Enc.u8 wI (B++O) (d720) ((l[0]!).data)∧GQ wI b708 70 [vI ((l[0]!).epoch),vI ((l[0]!).index),vI ((l[0]!).threshold),vI ((l[0]!).many),d720]∧b708∈B) (l.length - (0)) ?_ ?_
      ·exact ⟨(0),(b708 :: []),oM,(by unfold EP;((repeat ((refine (if_neg ?_).trans ?_;solve|(simp only [UT];omega))));rfl)),rfl,⟨_,AX _ ⟨rfl,(by rfl),rfl,rfl,(by rfl),rfl,trivial⟩⟩,s716,h_l,hd721,bx719,(by (repeat (exact List.mem_cons_self)))⟩
      ·intro ml0 F wl0 hI
       clear h_l hd721 bx719
       obtain ⟨k,Bl0,hr0_0,hr0_1,hm0,⟨Fl0,rfl⟩,sl0,h_l,hd721,bx719,hin_b708⟩:=hI
       refine AG (?_)
       refine AB kR (AA (DW .i64 ((k:Nat):Int) (l.length:Int) rfl rfl (AF (AC (?_)))))
       refine AG (?_)
       refine AO (decide (((k:Nat):Int)<(l.length:Int))) rfl rfl (fun hc731=>?_) (fun hc731=>?_)
       ·have hp732:((k:Nat):Int)<(l.length:Int):=by simpa using hc731
        refine AU (AC (?_))
        refine AG (?_)
        refine BR (?_)
        refine AG (?_)
        refine AB kR (AA (DI U32_ DM .i64 ((k:Nat):Int) k rfl rfl rfl h_l oM fun a733 hp734=>(AA (CR U70_ rfl DM rfl hp734 fun cs735 hs736=>(AA (CX [vI 0,vI 0,vI 0,vI 0,nS] MT rfl sl0 fun b737 w738 e743 s739 m740 k741 bx742=>(?_)))))))
        have ne744:FH b708 b737:=by show b708≠b737;have:=bx719.lt;omega
        clear e743
        have h_l:=h_l.mv m740
        have hs736:Enc.share.rd w738 ((b737 :: Bl0)++O) cs735 (l[k]!):=Enc.mv Enc.share (x:=l[k]!) hs736 m740
        have hd721:=hd721.mv m740
        have bx719:=bx719.keep k741 (by simp)
        obtain ⟨d750,rfl,hd751⟩:=hs736
        have:=hd751.len_le
        refine BY (BC (vs:=[vI ((l[k]!).epoch),vI ((l[k]!).index),vI ((l[k]!).threshold),vI ((l[k]!).many),d750]) (.agg #[vI ((l[k]!).epoch),vI ((l[k]!).index),vI ((l[k]!).threshold),vI ((l[k]!).many),d750]) rfl rfl rfl DM (fun u hu=>by simp only [List.mem_cons,List.not_mem_nil,or_false] at hu;rcases hu with rfl|rfl|rfl|rfl|rfl <;> first|rfl|exact hd751.oneCell) (by repeat (constructor)) bx742 oT s739 fun w745 s746 m747 k748 bx749=>(?_))
        have h_l:=h_l.mv m747
        have hd751:=hd751.mv m747
        have hd721:=hd721.mv m747
        have bx719:=bx719.keep k748 (BH ne744)
        refine AF (AC (?_))
        refine AG (?_)
        refine AG (?_)
        refine AB kR (AA (BD 2 KL rfl (AA (BI U3_ rfl (vI ((l[k]!).threshold)) rfl bx749 rfl (AA (BD 2 KL rfl (AA (BI U3_ rfl (vI ((l[0]!).threshold)) rfl bx719 rfl (AA (CV .i64 ((l[k]!).threshold) ((l[0]!).threshold) rfl rfl (AA (AE (vO (((l[k]!).threshold) != ((l[0]!).threshold))) rfl (?_)))))))))))))
        cases hb752:(((l[k]!).threshold) != ((l[0]!).threshold))
        ·have hp753:(l[k]!).threshold=(l[0]!).threshold:=by simpa using hb752
         refine BE rfl (BD 3 KK rfl (BE rfl (BI U3_ rfl (vI ((l[k]!).many)) rfl bx749 rfl (BE rfl (BD 3 KK rfl (BE rfl (BI U3_ rfl (vI ((l[0]!).many)) rfl bx719 rfl (BE rfl (CV .i64 ((l[k]!).many) ((l[0]!).many) rfl rfl (AA (BX (vO (((l[k]!).many) != ((l[0]!).many))) rfl rfl (AA (AE (vO (((l[k]!).many) != ((l[0]!).many))) rfl (?_))))))))))))))
         cases hb754:(((l[k]!).many) != ((l[0]!).many))
         ·have hp755:(l[k]!).many=(l[0]!).many:=by simpa using hb754
          refine BE rfl (BD 4 GM rfl (BE rfl (BI U23_ rfl (d750) rfl bx749 rfl (BE rfl (CG U23_ rfl hd751 (BE rfl (BD 4 GM rfl (BE rfl (BI U23_ rfl (d720) rfl bx719 rfl (BE rfl (CG U23_ rfl hd721 (BE rfl (CV .i64 (((l[k]!).data).length:Int) (((l[0]!).data).length:Int) rfl rfl (AA (BX (vO ((((l[k]!).data).length:Int) != (((l[0]!).data).length:Int))) rfl rfl (AF (AC (?_))))))))))))))))))
          refine AO ((((l[k]!).data).length:Int) != (((l[0]!).data).length:Int)) rfl rfl (fun hc756=>?_) (fun hc756=>?_)
          ·have hp757:(((l[k]!).data).length:Int)≠(((l[0]!).data).length:Int):=by simpa using hc756
           refine AG (?_)
           refine AB kR (AA (AD (vO false) rfl (AF (AC (?_)))))
           refine AP (AR (CB (AR (AR (CB (AR (AZ rfl (CS rfl rfl rfl) (?_))))))))
           have e:(EP l)=false:=by (rw [hr0_1];exact DQ oM (by ((repeat ((refine (if_pos ?_).trans ?_;solve|(simp only [UT];omega))));rfl)))
           exact ⟨_,rfl,s746.keep,(by exact congrArg vO e.symm)⟩
          ·have hp758:(((l[k]!).data).length:Int)=(((l[0]!).data).length:Int):=by simpa using hc756
           refine AU (AC (?_))
           refine AG (?_)
           refine AG (?_)
           refine AB kR (AA (BD 1 QW rfl (AA (BI U3_ rfl (vI ((l[k]!).index)) rfl bx749 rfl (AA (AE (vI (HY l k)) rfl (AA (o_leq .i64 ((l[k]!).index) (HY l k) rfl rfl (AA (AE (vO (decide ((l[k]!).index≤HY l k))) rfl (?_)))))))))))
           cases hb759:(decide ((l[k]!).index≤HY l k))
           ·have hp760:HY l k<(l[k]!).index:=by simpa using hb759
            refine BE rfl (BD 1 QW rfl (BE rfl (BI U3_ rfl (vI ((l[k]!).index)) rfl bx749 rfl (BE rfl (BD 3 KK rfl (BE rfl (BI U3_ rfl (vI ((l[0]!).many)) rfl bx719 rfl (BE rfl (FW .i64 ((l[k]!).index) ((l[0]!).many) rfl rfl (AA (BX (vO (decide ((l[0]!).many<(l[k]!).index))) rfl rfl (AF (AC (?_))))))))))))))
            refine AO (decide ((l[0]!).many<(l[k]!).index)) rfl rfl (fun hc761=>?_) (fun hc761=>?_)
            ·have hp762:(l[0]!).many<(l[k]!).index:=by simpa using hc761
             refine AG (?_)
             refine AB kR (AA (AD (vO false) rfl (AF (AC (?_)))))
             refine AP (AR (CB (AR (AR (CB (AR (AZ rfl (CS rfl rfl rfl) (?_))))))))
             have e:(EP l)=false:=by (rw [hr0_1];exact DQ oM (by ((repeat (first|(refine (if_pos ?_).trans ?_;solve|(simp only [UT];omega))|(refine (if_neg ?_).trans ?_;solve|(simp only [UT];omega))));rfl)))
             exact ⟨_,rfl,s746.keep,(by exact congrArg vO e.symm)⟩
            ·have hp763:(l[k]!).index≤(l[0]!).many:=by simpa using hc761
             refine AU (AC (?_))
             refine AB kR (AA (BD 1 QW rfl (AA (BI U3_ rfl (vI ((l[k]!).index)) rfl bx749 rfl (AA (AD (vI ((l[k]!).index)) rfl (AF (CI (AC (?_))))))))))
             refine AB kR (AA (DC .i64 ((k:Nat):Int) (1:Int) (((k+1:Nat):Int)) rfl rfl (FO oM oM) (AA (AE (vI ((k+1:Nat):Int)) rfl (AF (AC (?_)))))))
             exact ⟨_,oM,(k+1),(b737 :: Bl0),oM,(hr0_1.trans (GJ oM (by ((repeat ((refine (if_neg ?_).trans ?_;solve|(simp only [UT];omega))));rfl)))),rfl,⟨_,AX _ ⟨rfl,(by rfl),rfl,rfl,(by rfl),rfl,trivial⟩⟩,s746,h_l,hd721,bx719,(by (repeat (first|assumption|apply List.mem_cons_of_mem)))⟩
           ·have hp764:(l[k]!).index≤HY l k:=by simpa using hb759
            refine AT rfl (AT rfl (AT rfl (AT rfl (AT rfl (AA (BK (vO true) rfl rfl (AF (AC (?_)))))))))
            refine AO true rfl rfl (fun _=>?_) (fun h=>by cases h)
            refine AG (?_)
            refine AB kR (AA (AD (vO false) rfl (AF (AC (?_)))))
            refine AP (AR (CB (AR (AR (CB (AR (AZ rfl (CS rfl rfl rfl) (?_))))))))
            have e:(EP l)=false:=by (rw [hr0_1];exact DQ oM (by ((repeat (first|(refine (if_pos ?_).trans ?_;solve|(simp only [UT];omega))|(refine (if_neg ?_).trans ?_;solve|(simp only [UT];omega))));rfl)))
            exact ⟨_,rfl,s746.keep,(by exact congrArg vO e.symm)⟩
         ·have hp765:(l[k]!).many≠(l[0]!).many:=by simpa using hb754
          refine AT rfl (AT rfl (AT rfl (AT rfl (AT rfl (AT rfl (AT rfl (AA (BK (vO true) rfl rfl (AF (AC (?_)))))))))))
          refine AO true rfl rfl (fun _=>?_) (fun h=>by cases h)
          refine AG (?_)
          refine AB kR (AA (AD (vO false) rfl (AF (AC (?_)))))
          refine AP (AR (CB (AR (AR (CB (AR (AZ rfl (CS rfl rfl rfl) (?_))))))))
          have e:(EP l)=false:=by (rw [hr0_1];exact DQ oM (by ((repeat ((refine (if_pos ?_).trans ?_;solve|(simp only [UT];omega))));rfl)))
          exact ⟨_,rfl,s746.keep,(by exact congrArg vO e.symm)⟩
        ·have hp766:(l[k]!).threshold≠(l[0]!).threshold:=by simpa using hb752
         refine AT rfl (AT rfl (AT rfl (AT rfl (AT rfl (AA (BK (vO true) rfl rfl (AA (AE (vO true) rfl (AT rfl (AT rfl (AT rfl (AT rfl (AT rfl (AT rfl (AT rfl (AA (BK (vO true) rfl rfl (AF (AC (?_))))))))))))))))))))
         refine AO true rfl rfl (fun _=>?_) (fun h=>by cases h)
         refine AG (?_)
         refine AB kR (AA (AD (vO false) rfl (AF (AC (?_)))))
         refine AP (AR (CB (AR (AR (CB (AR (AZ rfl (CS rfl rfl rfl) (?_))))))))
         have e:(EP l)=false:=by (rw [hr0_1];exact DQ oM (by ((repeat ((refine (if_pos ?_).trans ?_;solve|(simp only [UT];omega))));rfl)))
         exact ⟨_,rfl,s746.keep,(by exact congrArg vO e.symm)⟩
       ·have hp767:(l.length:Int)≤((k:Nat):Int):=by simpa using hc731
        refine DE (CC (CC (CY (AC (?_)))))
        refine AG (?_)
        refine AB kR (AA (AD (vO true) rfl (AF (AC (?_)))))
        refine AP (AZ rfl (CS rfl rfl rfl) (?_))
        have e:(EP l)=true:=by (rw [hr0_1];exact HD oM)
        exact ⟨_,rfl,sl0.keep,(by exact congrArg vO e.symm)⟩
    ·have hp768:(8:Int)<(l[0]!).many:=by simpa using hb726
     refine AT rfl (AT rfl (AT rfl (AT rfl (AA (BK (vO true) rfl rfl (AF (AC (?_))))))))
     refine AO true rfl rfl (fun _=>?_) (fun h=>by cases h)
     refine AG (?_)
     refine AB kR (AA (AD (vO false) rfl (AF (AC (?_)))))
     refine AP (AR (AZ rfl (CS rfl rfl rfl) (?_)))
     have e:(EP l)=false:=by (unfold EP;((repeat (first|(refine (if_pos ?_).trans ?_;solve|(simp only [UT];omega))|(refine (if_neg ?_).trans ?_;solve|(simp only [UT];omega))));rfl))
     exact ⟨_,rfl,s716.keep,(by exact congrArg vO e.symm)⟩
   ·have hp769:(l[0]!).many<(l[0]!).threshold:=by simpa using hb724
    refine AT rfl (AT rfl (AT rfl (AA (BK (vO true) rfl rfl (AA (AE (vO true) rfl (AT rfl (AT rfl (AT rfl (AT rfl (AA (BK (vO true) rfl rfl (AF (AC (?_)))))))))))))))
    refine AO true rfl rfl (fun _=>?_) (fun h=>by cases h)
    refine AG (?_)
    refine AB kR (AA (AD (vO false) rfl (AF (AC (?_)))))
    refine AP (AR (AZ rfl (CS rfl rfl rfl) (?_)))
    have e:(EP l)=false:=by (unfold EP;((repeat (first|(refine (if_pos ?_).trans ?_;solve|(simp only [UT];omega))|(refine (if_neg ?_).trans ?_;solve|(simp only [UT];omega))));rfl))
    exact ⟨_,rfl,s716.keep,(by exact congrArg vO e.symm)⟩
  ·have hp770:(l[0]!).threshold<(1:Int):=by simpa using hb722
   refine AT rfl (AT rfl (AT rfl (AT rfl (AT rfl (AA (BK (vO true) rfl rfl (AA (AE (vO true) rfl (AT rfl (AT rfl (AT rfl (AA (BK (vO true) rfl rfl (AA (AE (vO true) rfl (AT rfl (AT rfl (AT rfl (AT rfl (AA (BK (vO true) rfl rfl (AF (AC (?_))))))))))))))))))))))))
   refine AO true rfl rfl (fun _=>?_) (fun h=>by cases h)
   refine AG (?_)
   refine AB kR (AA (AD (vO false) rfl (AF (AC (?_)))))
   refine AP (AR (AZ rfl (CS rfl rfl rfl) (?_)))
   have e:(EP l)=false:=by (unfold EP;((repeat (first|(refine (if_pos ?_).trans ?_;solve|(simp only [UT];omega))|(refine (if_neg ?_).trans ?_;solve|(simp only [UT];omega))));rfl))
   exact ⟨_,rfl,s716.keep,(by exact congrArg vO e.symm)⟩
set_option maxHeartbeats 4000000 in
set_option maxRecDepth 100000 in
theorem LW {O:List Nat} (l_v:Value) (l:List Share) (w:World) (h_l:BG Enc.share w O l_v l) (hO:∀ b∈O,b<w.heap.size):CF Try.prog 40 [l_v] w (fun v _=>v=vI (BP l)):= by
 have lim_l:=h_l.len_le
 have h_l:BG Enc.share w ([]++O) l_v l:=h_l
 have s0:St w O w []:=St.start hO
 refine BQ 32 Try.func40 rfl rfl oT (fun F0=>?_)
 refine AG (?_)
 refine AB kR (AA (AD (vI 0) rfl (AF (AC (?_)))))
 refine AG (?_)
 refine AG (?_)
 refine AB kR (AA (AE (l_v) rfl (AA (BB (vs:=[l_v]) enter_88 (c_alike (O:=[]++O) l_v l w h_l s0.lt) rfl s0 fun v771 w772 s773 m774 k775 r776=>(?_)))))
 obtain rfl:=r776
 have h_l:=h_l.mv m774
 refine AA (HC (EP l) rfl (AF (AC (?_))))
 refine AO (!(EP l)) rfl rfl (fun hc777=>?_) (fun hc777=>?_)
 ·have hp778:(EP l)=false:=by simpa using hc777
  refine AG (?_)
  refine AB kR (AA (AD (vI 80) rfl (AF (AC (?_)))))
  refine AP (AR (AZ rfl (CS rfl rfl rfl) (?_)))
  have e:(BP l)=(80:Int):=by (unfold BP;((repeat ((refine (if_pos ?_).trans ?_;omega)));rfl))
  exact ⟨_,rfl,s773.keep,by rw [e];exact rfl⟩
 ·have hp779:(EP l)=true:=by simpa using hc777
  refine AU (AC (?_))
  refine AG (?_)
  refine AG (?_)
  refine AB kR (AA (AE (l_v) rfl (AA (CG U32_ rfl h_l (AA (AE (vI 0) rfl (AF (AC (?_)))))))))
  refine BR (?_)
  refine DH (fun mI FI wI=>∃ (k:Nat) (B:List Nat),k≤l.length∧BP l=FG (fun k=>if ep1 l k then some 81 else none) 0 k (l.length - k)∧mI=l.length - k∧(∃ F1,FI=FT F1 [(0,l_v),(8,l_v),(9,vI (l.length:Int)),(10,vI ((k:Nat):Int)),(32,undef)])∧St w O wI B∧BG Enc.share wI (B++O) (l_v) (l)) (l.length - (0)) ?_ ?_
  ·exact ⟨(0),[],oM,(by unfold BP;((repeat ((refine (if_neg ?_).trans ?_;solve|(simp only [*,dbs];done))));rfl)),rfl,⟨_,AX _ ⟨rfl,rfl,rfl,(by rfl),rfl,trivial⟩⟩,s773,h_l⟩
  ·intro ml0 F wl0 hI
   clear h_l
   obtain ⟨k,Bl0,hr0_0,hr0_1,hm0,⟨Fl0,rfl⟩,sl0,h_l⟩:=hI
   refine AG (?_)
   refine AB kR (AA (DW .i64 ((k:Nat):Int) (l.length:Int) rfl rfl (AF (AC (?_)))))
   refine AG (?_)
   refine AO (decide (((k:Nat):Int)<(l.length:Int))) rfl rfl (fun hc780=>?_) (fun hc780=>?_)
   ·have hp781:((k:Nat):Int)<(l.length:Int):=by simpa using hc780
    refine AU (AC (?_))
    refine AG (?_)
    refine BR (?_)
    refine AG (?_)
    refine AB kR (AA (DI U32_ DM .i64 ((k:Nat):Int) k rfl rfl rfl h_l oM fun a782 hp783=>(AA (CR U70_ rfl DM rfl hp783 fun cs784 hs785=>(AA (CX [vI 0,vI 0,vI 0,vI 0,nS] MT rfl sl0 fun b786 w787 e792 s788 m789 k790 bx791=>(?_)))))))
    clear e792
    have h_l:=h_l.mv m789
    have hs785:Enc.share.rd w787 ((b786 :: Bl0)++O) cs784 (l[k]!):=Enc.mv Enc.share (x:=l[k]!) hs785 m789
    obtain ⟨d798,rfl,hd799⟩:=hs785
    have:=hd799.len_le
    refine BY (BC (vs:=[vI ((l[k]!).epoch),vI ((l[k]!).index),vI ((l[k]!).threshold),vI ((l[k]!).many),d798]) (.agg #[vI ((l[k]!).epoch),vI ((l[k]!).index),vI ((l[k]!).threshold),vI ((l[k]!).many),d798]) rfl rfl rfl DM (fun u hu=>by simp only [List.mem_cons,List.not_mem_nil,or_false] at hu;rcases hu with rfl|rfl|rfl|rfl|rfl <;> first|rfl|exact hd799.oneCell) (by repeat (constructor)) bx791 oT s788 fun w793 s794 m795 k796 bx797=>(?_))
    have h_l:=h_l.mv m795
    refine AF (AC (?_))
    refine AG (?_)
    refine cw_draw' 6 _ _ [DF (vP (some ⟨b786,0,none⟩)),DF (vI ((l[k]!).epoch)),fun (vT:Value) (wT:World)=>BG Enc.share wT ((b786 :: Bl0)++O) vT (l),fun (vT:Value) (wT:World)=>∃ aT,vT = .pointer (some aT)∧PT Enc.share wT ((b786 :: Bl0)++O) (.pointer (some aT)) (l[0]!),fun (vT:Value) (wT:World)=>∃ aT,vT = .pointer (some aT)∧PT Enc.int wT ((b786 :: Bl0)++O) (.pointer (some aT)) ((l[0]!).epoch),DF (vI ((l[0]!).epoch))] kR kR kR kR rfl rfl ⟨kI,kI,fun _ _ _ h k=>h.mv (Mv.of_keep k),fun _ _ _ ⟨a,e,h⟩ k=>⟨a,e,h.mv (Mv.of_keep k)⟩,fun _ _ _ ⟨a,e,h⟩ k=>⟨a,e,h.mv (Mv.of_keep k)⟩,kI,trivial⟩ ⟨?_,?_,?_,?_,?_,?_,trivial⟩ ?_
    ·intro F1 w1 k1 hf hd
     obtain ⟨F2,rfl⟩:=AL (F:=F1) [(4,vP (some ⟨b786,0,none⟩))] ⟨hf 4 kR,trivial⟩
     exact AH rfl ((BD 0 IP rfl (⟨(Keep.refl _ _),rfl⟩)))
    ·intro F1 w1 k1 hf hd
     have k0:=(Keep.drew [] w793).trans k1
     have bx797:=bx797.keep k0 (by simp)
     obtain ⟨F2,rfl⟩:=AL (F:=F1) [(14,vP (some ⟨b786,0,none⟩))] ⟨hd 0 14 kR,trivial⟩
     exact AH rfl ((BI U3_ rfl (vI ((l[k]!).epoch)) rfl bx797 rfl (⟨(Keep.refl _ _),rfl⟩)))
    ·intro F1 w1 k1 hf hd
     have k0:=(Keep.drew [] w793).trans k1
     have m1:Mv (b786 :: Bl0) w793 (b786 :: Bl0) w1:=Mv.of_keep k0
     have h_l:=h_l.mv m1
     obtain ⟨F2,rfl⟩:=AL (F:=F1) [(0,l_v)] ⟨hf 0 kR,trivial⟩
     exact AH rfl ((AE (l_v) rfl (⟨(Keep.refl _ _),h_l⟩)))
    ·intro F1 w1 k1 hf hd
     obtain ⟨v800,e802,hl801⟩:∃ v,F1 16=v∧BG Enc.share w1 ((b786 :: Bl0)++O) v (l):=⟨_,rfl,hd 2 16 kR⟩
     have:=hl801.len_le
     obtain ⟨F2,rfl⟩:=AL (F:=F1) [(16,v800)] ⟨e802,trivial⟩
     exact AH rfl ((DI U32_ DM .i64 (0:Int) 0 rfl rfl rfl hl801 oM fun a803 hp804=>(⟨(Keep.refl _ _),⟨a803,rfl,hp804⟩⟩)))
    ·intro F1 w1 k1 hf hd
     obtain ⟨a805,e807,hp806⟩:∃ aX_,F1 17 = .pointer (some aX_)∧PT Enc.share w1 ((b786 :: Bl0)++O) (.pointer (some aX_)) (l[0]!):=hd 3 17 kR
     obtain ⟨F2,rfl⟩:=AL (F:=F1) [(17,vP (some a805))] ⟨e807,trivial⟩
     exact AH rfl ((BM 0 IP ((l[0]!).epoch) rfl hp806 (fun _ _ _ h=>MH h) fun a808 hp809=>(⟨(Keep.refl _ _),⟨a808,rfl,hp809⟩⟩)))
    ·intro F1 w1 k1 hf hd
     obtain ⟨a810,e812,hp811⟩:∃ aX_,F1 18 = .pointer (some aX_)∧PT Enc.int w1 ((b786 :: Bl0)++O) (.pointer (some aX_)) ((l[0]!).epoch):=hd 4 18 kR
     obtain ⟨F2,rfl⟩:=AL (F:=F1) [(18,vP (some a810))] ⟨e812,trivial⟩
     exact AH rfl ((CE U3_ rfl rfl hp811 (⟨(Keep.refl _ _),rfl⟩)))
    intro F814 w815 k813 hT816 hF817
    have s818:=s794.call k813
    have m819:Mv (b786 :: Bl0) w793 (b786 :: Bl0) w815:=Mv.of_keep k813
    have h_l:=h_l.mv m819
    have bx797:=bx797.keep k813 (by simp)
    obtain ⟨F2,rfl⟩:=AL (F:=F814) [(0,l_v),(4,vP (some ⟨b786,0,none⟩)),(8,l_v),(9,vI (l.length:Int)),(10,vI ((k:Nat):Int)),(32,undef),(15,vI ((l[k]!).epoch)),(19,vI ((l[0]!).epoch))] ⟨hF817 0 kR,hF817 4 kR,hF817 8 kR,hF817 9 kR,hF817 10 kR,hF817 32 kR,hT816 1 15 kR (by decide),hT816 5 19 kR (by decide),trivial⟩
    clear hT816 hF817
    refine AA (CV .i64 ((l[k]!).epoch) ((l[0]!).epoch) rfl rfl (AA (AE (vO (((l[k]!).epoch) != ((l[0]!).epoch))) rfl (?_))))
    cases hb822:(((l[k]!).epoch) != ((l[0]!).epoch))
    ·have hp823:(l[k]!).epoch=(l[0]!).epoch:=by simpa using hb822
     refine BE rfl (BD 0 IP rfl (BE rfl (BI U3_ rfl (vI ((l[k]!).epoch)) rfl bx797 rfl (BE rfl (DW .i64 ((l[k]!).epoch) (0:Int) rfl rfl (AA (BX (vO (decide ((l[k]!).epoch<(0:Int)))) rfl rfl (AA (AE (vO (decide ((l[k]!).epoch<(0:Int)))) rfl (?_))))))))))
     cases hb824:(decide ((l[k]!).epoch<(0:Int)))
     ·have hp825:(0:Int)≤(l[k]!).epoch:=by simpa using hb824
      refine BE rfl (BD 0 IP rfl (BE rfl (BI U3_ rfl (vI ((l[k]!).epoch)) rfl bx797 rfl (BE rfl (FW .i64 ((l[k]!).epoch) (1048576:Int) rfl rfl (AA (BX (vO (decide ((1048576:Int)<(l[k]!).epoch))) rfl rfl (AF (AC (?_))))))))))
      refine AO (decide ((1048576:Int)<(l[k]!).epoch)) rfl rfl (fun hc826=>?_) (fun hc826=>?_)
      ·have hp827:(1048576:Int)<(l[k]!).epoch:=by simpa using hc826
       refine AG (?_)
       refine AB kR (AA (AD (vI 81) rfl (AF (AC (?_)))))
       refine AP (CB (AR (AR (CB (AR (AZ rfl (CS rfl rfl rfl) (?_)))))))
       have e:(BP l)=(81:Int):=by (rw [hr0_1];exact DQ oM (by ((repeat ((refine (if_pos ?_).trans ?_;solve|(simp only [UT];omega))));rfl)))
       exact ⟨_,rfl,s818.keep,by rw [e];exact rfl⟩
      ·have hp828:(l[k]!).epoch≤(1048576:Int):=by simpa using hc826
       refine AU (CI (AC (?_)))
       refine AB kR (AA (DC .i64 ((k:Nat):Int) (1:Int) (((k+1:Nat):Int)) rfl rfl (FO oM oM) (AA (AE (vI ((k+1:Nat):Int)) rfl (AF (AC (?_)))))))
       exact ⟨_,oM,(k+1),(b786 :: Bl0),oM,(hr0_1.trans (GJ oM (by ((repeat ((refine (if_neg ?_).trans ?_;solve|(simp only [UT];omega))));rfl)))),rfl,⟨_,AX _ ⟨rfl,rfl,rfl,(by rfl),rfl,trivial⟩⟩,s818,h_l⟩
     ·have hp829:(l[k]!).epoch<(0:Int):=by simpa using hb824
      refine AT rfl (AT rfl (AT rfl (AA (BK (vO true) rfl rfl (AF (AC (?_)))))))
      refine AO true rfl rfl (fun _=>?_) (fun h=>by cases h)
      refine AG (?_)
      refine AB kR (AA (AD (vI 81) rfl (AF (AC (?_)))))
      refine AP (CB (AR (AR (CB (AR (AZ rfl (CS rfl rfl rfl) (?_)))))))
      have e:(BP l)=(81:Int):=by (rw [hr0_1];exact DQ oM (by ((repeat ((refine (if_pos ?_).trans ?_;solve|(simp only [UT];omega))));rfl)))
      exact ⟨_,rfl,s818.keep,by rw [e];exact rfl⟩
    ·have hp830:(l[k]!).epoch≠(l[0]!).epoch:=by simpa using hb822
     refine AT rfl (AT rfl (AT rfl (AA (BK (vO true) rfl rfl (AA (AE (vO true) rfl (AT rfl (AT rfl (AT rfl (AA (BK (vO true) rfl rfl (AF (AC (?_))))))))))))))
     refine AO true rfl rfl (fun _=>?_) (fun h=>by cases h)
     refine AG (?_)
     refine AB kR (AA (AD (vI 81) rfl (AF (AC (?_)))))
     refine AP (CB (AR (AR (CB (AR (AZ rfl (CS rfl rfl rfl) (?_)))))))
     have e:(BP l)=(81:Int):=by (rw [hr0_1];exact DQ oM (by ((repeat ((refine (if_pos ?_).trans ?_;solve|(simp only [UT];omega))));rfl)))
     exact ⟨_,rfl,s818.keep,by rw [e];exact rfl⟩
   ·have hp831:(l.length:Int)≤((k:Nat):Int):=by simpa using hc780
    refine DE (CC (CC (CY (AC (?_)))))
    refine AG (?_)
    refine AB kR (AA (AD (vI 0) rfl (AF (AC (?_)))))
    refine AP (AZ rfl (CS rfl rfl rfl) (?_))
    have e:(BP l)=(0:Int):=by (rw [hr0_1];exact HD oM)
    exact ⟨_,rfl,sl0.keep,by rw [e];exact rfl⟩
open Go.Fw
def LP (secret coins:List UInt8) (threshold:Int) (i:Nat):List UInt8:=secret[i]! :: ((coins.take ((i+1)*(threshold - 1).toNat)).drop (i*(threshold - 1).toNat))
theorem polyB {i n m:Nat} {t:Int} (hi:i<n) (ht:1≤t) (h:(m:Int)=(n:Int)*(t - 1)):(i+1)*(t - 1).toNat≤m:=by
  obtain ⟨T,rfl⟩:∃ T:Nat,t=(T:Int)+1:=⟨(t - 1).toNat,by omega⟩
  have e:((T:Int)+1 - 1)=(T:Int):=by omega
  rw [e] at h ⊢
  have h2:m=n*T:=by exact_mod_cast h
  rw [h2]
  exact Nat.mul_le_mul_right _ hi
theorem polyL {n m:Nat} {t:Int} (hn:n≤1000) (ht:1≤t) (ht8:t≤8) (h:(m:Int)=(n:Int)*(t - 1)):m≤7000:=by
  obtain ⟨T,rfl⟩:∃ T:Nat,t=(T:Int)+1:=⟨(t - 1).toNat,by omega⟩
  have e:((T:Int)+1 - 1)=(T:Int):=by omega
  rw [e] at h
  have h2:m=n*T:=by exact_mod_cast h
  rw [h2]
  calc n*T≤1000*7:=Nat.mul_le_mul hn (by omega)
    _=7000:=rfl
def polysM (secret coins:List UInt8) (threshold:Int):List (List UInt8):=(List.range secret.length).map fun i=>LP secret coins threshold i
def EX (secret:List UInt8) (polys:List (List UInt8)) (epoch threshold many:Int) (k:Nat):Share:=⟨epoch,(k:Int)+1,threshold,many,(List.range secret.length).map fun i=>EG polys[i]! (GP ((k:Int)+1))⟩
def IT (secret:List UInt8) (epoch threshold many:Int) (coins:List UInt8):List Share:=(List.range many.toNat).map fun k=>EX secret (polysM secret coins threshold) epoch threshold many k
def ED (secret:List UInt8) (epoch threshold many:Int) (coins:List UInt8):Int:=
  if 64<(secret.length:Int) then 1 else if (threshold<1∨many<threshold)∨8<many then 80 else if epoch<0∨1048576<epoch then 81 else if (coins.length:Int)≠(secret.length:Int)*(threshold - 1) then 1 else 0
def BV (secret:List UInt8) (epoch threshold many:Int) (coins:List UInt8):List Share × Int:=
  if ED secret epoch threshold many coins=0 then (IT secret epoch threshold many coins,0) else ([],ED secret epoch threshold many coins)
theorem splitM_ok {secret:List UInt8} {epoch threshold many:Int} {coins:List UInt8} {x:List Share} (h:ED secret epoch threshold many coins=0) (hx:IT secret epoch threshold many coins=x):BV secret epoch threshold many coins=(x,0):=by
  unfold BV;rw [if_pos h,hx]
theorem HN {secret:List UInt8} {epoch threshold many:Int} {coins:List UInt8} {e:Int} (h:ED secret epoch threshold many coins=e) (he:e≠0):BV secret epoch threshold many coins=([],e):=by
  unfold BV;rw [if_neg (by rw [h];exact he),h]
theorem GU {α:Type} [Inhabited α] (n:Nat) (f:Nat→α) (i:Nat) (h:i<n):((List.range n).map f)[i]! = f i:=by
  rw [getElem!_pos _ i (by simpa using h)];simp
theorem polys_get {secret coins:List UInt8} {threshold:Int} {i:Nat} (h:i<secret.length):(polysM secret coins threshold)[i]! = LP secret coins threshold i:=GU _ _ _ h
theorem ME (secret:List UInt8) (epoch threshold many:Int) (coins:List UInt8):ED secret epoch threshold many coins=0↔secret.length≤64∧1≤threshold∧threshold≤many∧many≤8∧0≤epoch∧epoch≤1048576∧(coins.length:Int)=(secret.length:Int)*(threshold - 1):=by
  unfold ED
  by_cases h1:64<(secret.length:Int)
  · rw [if_pos h1];omega
  rw [if_neg h1]
  by_cases h2:(threshold<1∨many<threshold)∨8<many
  · rw [if_pos h2];omega
  rw [if_neg h2]
  by_cases h3:epoch<0∨1048576<epoch
  · rw [if_pos h3];omega
  rw [if_neg h3]
  by_cases h4:(coins.length:Int)≠(secret.length:Int)*(threshold - 1)
  · rw [if_pos h4];exact ⟨fun h=>(by omega),fun h=>absurd h.2.2.2.2.2.2 h4⟩
  · rw [if_neg h4];exact ⟨fun _=>⟨by omega,by omega,by omega,by omega,by omega,by omega,Classical.not_not.1 h4⟩,fun _=>rfl⟩
def MX (l:List Share):List UInt8:=(List.range l.length).map fun i=>GP l[i]!.index
def EZ (l:List Share) (p:Nat):List UInt8:=(List.range l.length).map fun i=>l[i]!.data[p]!
theorem ID (l:List Share):(MX l).length=l.length:=by simp [MX]
theorem PL (l:List Share) (p:Nat):(EZ l p).length=l.length:=by simp [EZ]
def joinL (l:List Share):List UInt8:=(List.range l[0]!.data.length).map fun p=>(DB (MX l) (EZ l p) 0).1
def CO (l:List Share):List UInt8 × Int:=if BP l≠0 then ([],BP l) else if (l.length:Int)<l[0]!.threshold then ([],80) else (joinL (l.take l[0]!.threshold.toNat),0)
theorem joinM_ok {l:List Share} {x:List UInt8} (h:BP l=0) (h2:l[0]!.threshold≤(l.length:Int)) (hx:joinL (l.take l[0]!.threshold.toNat)=x):CO l=(x,0):=by
  unfold CO;rw [if_neg (by omega),if_neg (by omega),hx]
theorem VP {l:List Share} {e:Int} (h:BP l≠0) (he:BP l=e):CO l=([],e):=by
  unfold CO;rw [if_pos h,he]
theorem VI {l:List Share} {e:Int} (h:BP l=0) (h2:(l.length:Int)<l[0]!.threshold) (he:(80:Int)=e):CO l=([],e):=by
  unfold CO;rw [if_neg (by omega),if_pos (by omega),he]
theorem take0 {α:Type} [Inhabited α] {l:List α} {n:Nat} (h:0<n):(l.take n)[0]! = l[0]!:=by
  rw [getElem!_def,List.getElem?_take,if_pos h,getElem!_def]
theorem takeS {α:Type} [Inhabited α] {l:List α} {n i:Nat} (h:i<n):(l.take n)[i]! = l[i]!:=by
  rw [getElem!_def,List.getElem?_take,if_pos h,getElem!_def]
def IM (l:List Share) (m:Nat):List UInt8:=0 :: MX l++(List.range m).map (fun i:Nat=>GP (9+(i:Int)))
theorem KA (l:List Share) (m:Nat):(IM l m).length=1+l.length+m:=by simp [IM,ID];omega
def ON (l:List Share) (b:UInt8) (p m:Nat):List UInt8:=b :: EZ l p++List.replicate m 0
theorem expY_len (l:List Share) (b:UInt8) (p m:Nat):(ON l b p m).length=1+l.length+m:=by simp [ON,PL];omega
def OM (l:List Share) (secret:List UInt8) (m:Nat):Nat→List UInt8
  | 0=>[]
  | p+1=>OM l secret m p++(EL (IM l m) (ON l secret[p]! p m)).1.drop 1
def BJ (l:List Share) (secret:List UInt8):List UInt8 × Int:=
  if BP l≠0 then ([],BP l) else if l[0]!.threshold≤(l.length:Int) then ([],80) else if (secret.length:Int)≠(l[0]!.data.length:Int) then ([],1) else (OM l secret (l[0]!.threshold.toNat - 1 - l.length) secret.length,0)
open Go.Fw Go.RowKit
set_option maxHeartbeats 4000000 in
set_option maxRecDepth 100000 in
theorem c_polynomial {O:List Nat} (secret_v:Value) (secret:List UInt8) (coins_v:Value) (coins:List UInt8) (threshold:Int) (i:Nat) (w:World) (h_secret:BG Enc.u8 w O secret_v secret) (h_coins:BG Enc.u8 w O coins_v coins) (hpre0:1≤threshold) (hpre1:threshold≤8) (hpre2:i<secret.length) (hpre3:secret.length≤64) (hpre4:(coins.length:Int)=(secret.length:Int)*(threshold - 1)) (hO:∀ b∈O,b<w.heap.size):CF Try.prog 46 [secret_v,coins_v,vI threshold,vI (i:Int)] w (fun v w'=>∃ (x0:Value),v=x0∧BG Enc.u8 w' (O) x0 (LP secret coins threshold i)):= by
 have lim_secret:=h_secret.len_le
 have h_secret:BG Enc.u8 w ([]++O) secret_v secret:=h_secret
 have lim_coins:=h_coins.len_le
 have h_coins:BG Enc.u8 w ([]++O) coins_v coins:=h_coins
 have s0:St w O w []:=St.start hO
 have hpb:=polyB hpre2 hpre0 hpre4
 have hpl:=polyL oM hpre0 hpre1 hpre4
 refine BQ 31 Try.func46 rfl rfl oT (fun F0=>?_)
 refine AG (?_)
 refine AB kR (AA (AD (nS) rfl (AF (AC (?_)))))
 refine AG (?_)
 refine AB kR (AA (AE (vI (i:Int)) rfl (AA (AE (vI threshold) rfl (AA (HW .i64 threshold (1:Int) ((((threshold - 1).toNat:Nat):Int)) rfl rfl (FO oM oM) (AA (o_mul .i64 (i:Int) (((threshold - 1).toNat:Nat):Int) (((i*(threshold - 1).toNat:Nat):Int)) rfl rfl (FO (mulbN oM oM) (by simp)) (AA (AE (vI (i:Int)) rfl (AA (DC .i64 (i:Int) (1:Int) (((i+1:Nat):Int)) rfl rfl (FO oM oM) (AA (AE (vI threshold) rfl (AA (HW .i64 threshold (1:Int) ((((threshold - 1).toNat:Nat):Int)) rfl rfl (FO oM oM) (AA (o_mul .i64 ((i+1:Nat):Int) (((threshold - 1).toNat:Nat):Int) ((((i+1)*(threshold - 1).toNat:Nat):Int)) rfl rfl (FO (mulbN oM oM) (by simp)) (AA (AD (vI ((i*(threshold - 1).toNat:Nat):Int)) rfl (AA (AD (vI (((i+1)*(threshold - 1).toNat:Nat):Int)) rfl (AF (AC (?_)))))))))))))))))))))))))
 refine AG (?_)
 refine cw_draw' 10 _ _ [fun (vT:Value) (_:World)=>BG Enc.u8 w ([]++O) vT (secret),DF (vI (i:Int)),fun (vT:Value) (_:World)=>∃ aT,vT = .pointer (some aT)∧PT Enc.u8 w ([]++O) (.pointer (some aT)) (secret[i]!),DF (vB (secret[i]!)),fun (vT:Value) (wT:World)=>∃ bT:Nat,vT.ownBlock=some bT∧w.heap.size≤bT∧bT<wT.heap.size∧EJ Enc.u8 5 w.heap.size ((bT :: ([]))++O) wT vT ([secret[i]!]),fun (vT:Value) (_:World)=>BG Enc.u8 w ([]++O) vT (coins),DF (vI ((i*(threshold - 1).toNat:Nat):Int)),DF (vI (((i+1)*(threshold - 1).toNat:Nat):Int)),DF (vI (((i+1)*(threshold - 1).toNat:Nat):Int)),fun (vT:Value) (_:World)=>BG Enc.u8 w ([]++O) vT (((coins.take ((i+1)*(threshold - 1).toNat)).drop (i*(threshold - 1).toNat)))] kR kR kR kR rfl rfl ⟨fun _ _ _ h _=>h,kI,fun _ _ _ h _=>h,kI,fun _ _ _ ⟨b,e,h1,h2,h⟩ k=>⟨b,e,h1,Nat.lt_of_lt_of_le h2 k.size,h.mv (Mv.of_keep k) k (by simp)⟩,fun _ _ _ h _=>h,kI,kI,kI,fun _ _ _ h _=>h,trivial⟩ ⟨?_,?_,?_,?_,?_,?_,?_,?_,?_,?_,trivial⟩ ?_
 ·intro F1 w1 k1 hf hd
  obtain ⟨F2,rfl⟩:=AL (F:=F1) [(0,secret_v)] ⟨hf 0 kR,trivial⟩
  exact AH rfl ((AE (secret_v) rfl (⟨(Keep.refl _ _),h_secret⟩)))
 ·intro F1 w1 k1 hf hd
  obtain ⟨F2,rfl⟩:=AL (F:=F1) [(3,vI (i:Int))] ⟨hf 3 kR,trivial⟩
  exact AH rfl ((AE (vI (i:Int)) rfl (⟨(Keep.refl _ _),rfl⟩)))
 ·intro F1 w1 k1 hf hd
  obtain ⟨v1283,e1285,hl1284⟩:∃ v,F1 20=v∧BG Enc.u8 w ([]++O) v (secret):=⟨_,rfl,hd 0 20 kR⟩
  have:=hl1284.len_le
  obtain ⟨F2,rfl⟩:=AL (F:=F1) [(20,v1283),(21,vI (i:Int))] ⟨e1285,hd 1 21 kR,trivial⟩
  exact AH rfl ((o_idxU U23_ IJ .i64 (i:Int) i rfl rfl rfl hl1284 oM fun a1286 hp1287=>(⟨(Keep.refl _ _),⟨a1286,rfl,hp1287⟩⟩)))
 ·intro F1 w1 k1 hf hd
  have k0:=(Keep.drew [] w).trans k1
  obtain ⟨a1288,e1290,hp1289⟩:∃ aX_,F1 22 = .pointer (some aX_)∧PT Enc.u8 w ([]++O) (.pointer (some aX_)) (secret[i]!):=hd 2 22 kR
  obtain ⟨F2,rfl⟩:=AL (F:=F1) [(22,vP (some a1288))] ⟨e1290,trivial⟩
  exact AH rfl ((o_loadBU U5_ rfl rfl hp1289 k0 (⟨(Keep.refl _ _),rfl⟩)))
 ·intro F1 w1 k1 hf hd
  have k0:=(Keep.drew [] w).trans k1
  have s1:=s0.call k0
  obtain ⟨F2,rfl⟩:=AL (F:=F1) [(23,vB (secret[i]!))] ⟨hd 3 23 kR,trivial⟩
  refine AH rfl ((HP (E:=Enc.u8) (xs:=[.tmp 23]) U23_ IJ z_5 (by decide) [vB (secret[i]!)] [[vB (secret[i]!)]] [secret[i]!] rfl rfl rfl (Parts.cons rfl rfl (Parts.nil _ _ _)) oT s1 fun v1295 b1297 w1291 e1298 hb1299 s1292 m1293 k1294 hl1296=>(?_)))
  have lo1300:w.heap.size≤b1297:=by have:=k0.size;omega
  have hi1301:=(hl1296.lt b1297 hb1299).2
  exact ⟨k1294,⟨_,hb1299,lo1300,hi1301,hl1296⟩⟩
 ·intro F1 w1 k1 hf hd
  obtain ⟨F2,rfl⟩:=AL (F:=F1) [(1,coins_v)] ⟨hf 1 kR,trivial⟩
  exact AH rfl ((AE (coins_v) rfl (⟨(Keep.refl _ _),h_coins⟩)))
 ·intro F1 w1 k1 hf hd
  obtain ⟨F2,rfl⟩:=AL (F:=F1) [(9,vI ((i*(threshold - 1).toNat:Nat):Int))] ⟨hf 9 kR,trivial⟩
  exact AH rfl ((AE (vI ((i*(threshold - 1).toNat:Nat):Int)) rfl (⟨(Keep.refl _ _),rfl⟩)))
 ·intro F1 w1 k1 hf hd
  obtain ⟨F2,rfl⟩:=AL (F:=F1) [(10,vI (((i+1)*(threshold - 1).toNat:Nat):Int))] ⟨hf 10 kR,trivial⟩
  exact AH rfl ((AE (vI (((i+1)*(threshold - 1).toNat:Nat):Int)) rfl (⟨(Keep.refl _ _),rfl⟩)))
 ·intro F1 w1 k1 hf hd
  obtain ⟨F2,rfl⟩:=AL (F:=F1) [(10,vI (((i+1)*(threshold - 1).toNat:Nat):Int))] ⟨hf 10 kR,trivial⟩
  exact AH rfl ((AE (vI (((i+1)*(threshold - 1).toNat:Nat):Int)) rfl (⟨(Keep.refl _ _),rfl⟩)))
 ·intro F1 w1 k1 hf hd
  obtain ⟨v1302,e1304,hl1303⟩:∃ v,F1 25=v∧BG Enc.u8 w ([]++O) v (coins):=⟨_,rfl,hd 5 25 kR⟩
  have:=hl1303.len_le
  obtain ⟨F2,rfl⟩:=AL (F:=F1) [(25,v1302),(26,vI ((i*(threshold - 1).toNat:Nat):Int)),(27,vI (((i+1)*(threshold - 1).toNat:Nat):Int)),(28,vI (((i+1)*(threshold - 1).toNat:Nat):Int))] ⟨e1304,hd 6 26 kR,hd 7 27 kR,hd 8 28 kR,trivial⟩
  refine AH rfl ((o_slice3RU U23_ IJ (i*(threshold - 1).toNat) ((i+1)*(threshold - 1).toNat) ((i+1)*(threshold - 1).toNat) rfl (.inr ⟨.tmp 26, .i64,((i*(threshold - 1).toNat:Nat):Int),rfl,rfl,oM⟩) .i64 .i64 (((i+1)*(threshold - 1).toNat:Nat):Int) (((i+1)*(threshold - 1).toNat:Nat):Int) rfl oM rfl oM (Nat.mul_le_mul_right _ oM) (Nat.le_refl _) hpb hl1303 fun v1305 hl1306=>(?_)))
  exact ⟨(Keep.refl _ _),hl1306⟩
 intro F1308 w1309 k1307 hT1310 hF1311
 obtain ⟨v1316,e1318,hl1317⟩:∃ v,F1308 20=v∧BG Enc.u8 w ([]++O) v (secret):=⟨_,rfl,hT1310 0 20 kR (by decide)⟩
 have:=hl1317.len_le
 obtain ⟨a1319,e1321,hp1320⟩:∃ aX_,F1308 22 = .pointer (some aX_)∧PT Enc.u8 w ([]++O) (.pointer (some aX_)) (secret[i]!):=hT1310 2 22 kR (by decide)
 obtain ⟨v1322,e1324,hl1323⟩:∃ v,F1308 25=v∧BG Enc.u8 w ([]++O) v (coins):=⟨_,rfl,hT1310 5 25 kR (by decide)⟩
 have:=hl1323.len_le
 obtain ⟨v1325,e1327,hl1326⟩:∃ v,F1308 29=v∧BG Enc.u8 w ([]++O) v (((coins.take ((i+1)*(threshold - 1).toNat)).drop (i*(threshold - 1).toNat))):=⟨_,rfl,hT1310 9 29 kR (by decide)⟩
 have:=hl1326.len_le
 obtain ⟨v1328,e1334,b1329,hb1330,lo1331,hi1332,ho1333⟩:∃ v,F1308 24=v∧(fun (vT:Value) (wT:World)=>∃ bT:Nat,vT.ownBlock=some bT∧w.heap.size≤bT∧bT<wT.heap.size∧EJ Enc.u8 5 w.heap.size ((bT :: ([]))++O) wT vT ([secret[i]!])) v w1309:=⟨_,rfl,hT1310 4 24 kR (by decide)⟩
 have hB1335:∀ b,v1328.ownBlock=some b→b∈(b1329 :: []):=fun b hb=>by rw [hb1330] at hb;cases hb;simp
 have s1312:=(s0.call k1307).adopt (Nat.le_trans s0.keep.size lo1331) hi1332
 have m1313:Mv ([]) w (b1329 :: []) w1309:=Mv.adopt k1307 lo1331
 have hl1326:=hl1326.mv m1313
 obtain ⟨F2,rfl⟩:=AL (F:=F1308) [(8,nS),(31,undef),(20,v1316),(22,vP (some a1319)),(24,v1328),(25,v1322),(29,v1325)] ⟨hF1311 8 kR,hF1311 31 kR,e1318,e1321,e1334,e1324,e1327,trivial⟩
 clear hT1310 hF1311
 refine AA (DG (E:=Enc.u8) (l:=[secret[i]!]) (m:=((coins.take ((i+1)*(threshold - 1).toNat)).drop (i*(threshold - 1).toNat))) U23_ i_5 rfl (by decide) rfl rfl ho1333 hl1326 (fun _ hb=>.inl hb) hB1335 (by simp only [List.length_cons,List.length_nil,List.length_drop,List.length_take];omega) (by simp only [List.length_cons,List.length_nil,List.length_drop,List.length_take,maxLen];omega) s1312 fun v1340 w1336 B1342 hB1343 at1344 sub1345 s1337 m1338 k1339 ho1341=>(?_))
 refine AA (AD (v1340) rfl (AF (AC (?_))))
 refine AP (AZ rfl (CS rfl rfl rfl) (?_))
 have e:(LP secret coins threshold i)=(([secret[i]!])++((coins.take ((i+1)*(threshold - 1).toNat)).drop (i*(threshold - 1).toNat))):=rfl
 exact ⟨_,rfl,s1337.keep,by rw [e];exact ⟨v1340,rfl,ho1341.pub s1337⟩⟩
set_option maxHeartbeats 4000000 in
set_option maxRecDepth 100000 in
theorem c_split1 {O:List Nat} (i:Nat) (secret_a:Addr) (secret:(List UInt8)) (coins_a:Addr) (coins:(List UInt8)) (threshold_a:Addr) (threshold:Int) (w:World) (h_secret:PT (Enc.slice Enc.u8) w O (.pointer (some secret_a)) secret) (h_coins:PT (Enc.slice Enc.u8) w O (.pointer (some coins_a)) coins) (h_threshold:PT Enc.int w O (.pointer (some threshold_a)) threshold) (hpre0:1≤threshold) (hpre1:threshold≤8) (hpre2:i<secret.length) (hpre3:secret.length≤64) (hpre4:(coins.length:Int)=(secret.length:Int)*(threshold - 1)) (hO:∀ b∈O,b<w.heap.size):CF Try.prog 45 [vI (i:Int), .pointer (some secret_a), .pointer (some coins_a), .pointer (some threshold_a)] w (fun v w'=>∃ (x0:Value),v=x0∧BG Enc.u8 w' (O) x0 (LP secret coins threshold i)):= by
 have h_secret:PT (Enc.slice Enc.u8) w ([]++O) (.pointer (some secret_a)) secret:=h_secret
 have h_coins:PT (Enc.slice Enc.u8) w ([]++O) (.pointer (some coins_a)) coins:=h_coins
 have h_threshold:PT Enc.int w ([]++O) (.pointer (some threshold_a)) threshold:=h_threshold
 have s0:St w O w []:=St.start hO
 refine BQ 11 Try.func45 rfl rfl oT (fun F0=>?_)
 refine AG (?_)
 refine AB kR (AA (AD (nS) rfl (AF (AC (?_)))))
 refine AG (?_)
 refine AB kR (AA (BW U23_ rfl rfl h_secret fun v1346 hl1347=>(?_)))
 have:=hl1347.len_le
 refine AA (BW U23_ rfl rfl h_coins fun v1348 hl1349=>(?_))
 have:=hl1349.len_le
 refine AA (CE U3_ rfl rfl h_threshold (AA (AE (vI (i:Int)) rfl (AA (BB (vs:=[v1346,v1348,vI threshold,vI (i:Int)]) enter_46 (c_polynomial (O:=[]++O) v1346 secret v1348 coins threshold i w hl1347 hl1349 oM oM oM oM oM s0.lt) rfl s0 fun v1350 w1351 s1352 m1353 k1354 r1355=>(?_))))))
 obtain ⟨_,rfl,hl1356⟩:=r1355
 have:=hl1356.len_le
 refine AA (AD (v1350) rfl (AF (AC (?_))))
 refine AP (AZ rfl (CS rfl rfl rfl) (?_))
 exact ⟨_,rfl,s1352.keep,⟨v1350,rfl,hl1356.out⟩⟩
set_option maxHeartbeats 4000000 in
set_option maxRecDepth 100000 in
theorem c_collectL {O:List Nat} (n:Int) (f_v:Nat) (f_caps:List Value) (f:Nat→(List UInt8)) (w:World) (h_f_e:∀ (vs_:Array Value) (w:World),(callFunc f_v vs_).run Try.prog w = .ok (.enter f_v vs_) w) (h_f:∀ (w':World) (O':List Nat),Keep [] w w'→(∀ b∈O',b∈O∨w.heap.size≤b)→(∀ b∈O',b<w'.heap.size)→∀ (i:Nat),(i:Int)<n→CF Try.prog f_v ([vI (i:Int)]++f_caps) w' (fun v w2=>∃ (x0:Value),v=x0∧BG Enc.u8 w2 (O') x0 (f i))) (hpre0:n≤1000000) (hO:∀ b∈O,b<w.heap.size):CF Try.prog 44 [vI n, .func (.func f_v) #[] f_caps.toArray] w (fun v w'=>∃ (x0:Value),v=x0∧BG (Enc.slice Enc.u8) w' (O) x0 ((List.range (n).toNat).map f)):= by
 have s0:St w O w []:=St.start hO
 refine BQ 18 Try.func44 rfl rfl oT (fun F0=>?_)
 refine AG (?_)
 refine AB kR (AA (AD (.slice none 0 0) rfl (AF (AC (?_)))))
 refine AG (?_)
 refine AG (?_)
 refine AB kR (AA (AE (vI n) rfl (AA (AE (vI 0) rfl (AF (AC (?_)))))))
 refine BR (?_)
 refine DH (fun mI FI wI=>∃ (k:Nat) (vo0_4:Value) (B:List Nat),k≤n.toNat∧mI=n.toNat - k∧(∃ F1,FI=FT F1 [(1,vN (.func f_v) #[] f_caps.toArray),(4,vo0_4),(6,vI n),(7,vI ((k:Nat):Int)),(18,undef)])∧St w O wI B∧EJ (Enc.slice Enc.u8) 23 w.heap.size (B++O) wI vo0_4 (((List.range k).map f))∧(∀ b,vo0_4.ownBlock=some b→b∈B)) (n.toNat - (0)) ?_ ?_
 ·exact ⟨(0),(.slice none 0 0),[],oM,rfl,⟨_,AX _ ⟨rfl,rfl,rfl,(by rfl),rfl,trivial⟩⟩,s0,(by rw [show ((List.range (0)).map f)=[] from rfl];exact (EJ.nil (Enc.slice Enc.u8) 23 _ _ _)),(by intro b hb;simp [Value.ownBlock] at hb)⟩
 ·intro ml0 F wl0 hI
  obtain ⟨k,vo0_4,Bl0,hr0_0,hm0,⟨Fl0,rfl⟩,sl0,ho0_4,hB0_4⟩:=hI
  refine AG (?_)
  refine AB kR (AA (DW .i64 ((k:Nat):Int) n rfl rfl (AF (AC (?_)))))
  refine AG (?_)
  refine AO (decide (((k:Nat):Int)<n)) rfl rfl (fun hc1357=>?_) (fun hc1357=>?_)
  ·have hp1358:((k:Nat):Int)<n:=by simpa using hc1357
   refine AU (AC (?_))
   refine AG (?_)
   refine BR (?_)
   refine AG (?_)
   refine AB kR (AA (AE (vI ((k:Nat):Int)) rfl (AA (AD (vI ((k:Nat):Int)) rfl (AF (AC (?_)))))))
   refine AB kR (AA (AE (vo0_4) rfl (AA (AE (vN (.func f_v) #[] f_caps.toArray) rfl (AA (AE (vI ((k:Nat):Int)) rfl (AA (PJ [] f_caps [vI ((k:Nat):Int)] h_f_e rfl (h_f wl0 (Bl0++O) sl0.keep (fun b hb=>(List.mem_append.1 hb).elim (fun h=>.inr (sl0.new b h).1) .inl) sl0.lt k  oM) rfl rfl sl0 fun v1359 w1360 s1361 m1362 k1363 r1364=>(?_)))))))))
   obtain ⟨_,rfl,hl1365⟩:=r1364
   have:=hl1365.len_le
   have ho0_4:=ho0_4.mv m1362 k1363 (by simp)
   refine AA (IK (E:=(Enc.slice Enc.u8)) (xs:=[.tmp 13]) U83_ s_23 z_23 (by decide) [v1359] [[v1359]] [f k] rfl rfl rfl (Parts.cons (FD hl1365.oneCell) ⟨_,rfl,hl1365⟩ (Parts.nil _ _ _)) oT s1361 fun v1370 w1366 s1367 m1368 k1369 hl1371=>(?_))
   have ho0_4:=ho0_4.mv m1368 k1369 (by simp)
   have:=hl1371.len_le
   refine AA (DG (E:=(Enc.slice Enc.u8)) (l:=((List.range k).map f)) (m:=[f k]) U83_ i_23 rfl (by decide) rfl rfl ho0_4 hl1371 (fun _ hb=>.inl hb) hB0_4 (by simp;omega) (by simp [maxLen];omega) s1367 fun v1376 w1372 B1378 hB1379 at1380 sub1381 s1373 m1374 k1375 ho1377=>(?_))
   refine AA (AD (v1376) rfl (AF (CI (AC (?_)))))
   refine AB kR (AA (DC .i64 ((k:Nat):Int) (1:Int) (((k+1:Nat):Int)) rfl rfl (FO oM oM) (AA (AE (vI ((k+1:Nat):Int)) rfl (AF (AC (?_)))))))
   exact ⟨_,oM,(k+1),v1376,B1378,oM,rfl,⟨_,AX _ ⟨rfl,rfl,rfl,(by rfl),rfl,trivial⟩⟩,s1373,(by rw [show ((List.range (k+1)).map f)=((List.range k).map f)++([f k]) from by simp [List.range_succ]];exact ho1377),hB1379⟩
  ·have hp1382:n≤((k:Nat):Int):=by simpa using hc1357
   obtain rfl:k=n.toNat:=by omega
   refine DE (CC (CC (CY (AC (?_)))))
   refine AG (?_)
   refine AB kR (AA (AE (vo0_4) rfl (AA (AD (vo0_4) rfl (AF (AC (?_)))))))
   refine AP (AZ rfl (CS rfl rfl rfl) (?_))
   have e:((List.range (n).toNat).map f)=((List.range n.toNat).map f):=rfl
   exact ⟨_,rfl,sl0.keep,by rw [e];exact ⟨vo0_4,rfl,ho0_4.pub sl0⟩⟩
set_option maxHeartbeats 4000000 in
set_option maxRecDepth 100000 in
theorem PF {O:List Nat} (n:Int) (f_v:Nat) (f_caps:List Value) (f:Nat→Share) (w:World) (h_f_e:∀ (vs_:Array Value) (w:World),(callFunc f_v vs_).run Try.prog w = .ok (.enter f_v vs_) w) (h_f:∀ (w':World) (O':List Nat),Keep [] w w'→(∀ b∈O',b∈O∨w.heap.size≤b)→(∀ b∈O',b<w'.heap.size)→∀ (i:Nat),(i:Int)<n→CF Try.prog f_v ([vI (i:Int)]++f_caps) w' (fun v w2=>∃ (x0:List Value),v = .agg x0.toArray∧Enc.share.rd w2 (O') x0 (f i))) (hpre0:n≤1000000) (hO:∀ b∈O,b<w.heap.size):CF Try.prog 47 [vI n, .func (.func f_v) #[] f_caps.toArray] w (fun v w'=>∃ (x0:Value),v=x0∧BG Enc.share w' (O) x0 ((List.range (n).toNat).map f)):= by
 have s0:St w O w []:=St.start hO
 refine BQ 18 Try.func47 rfl rfl oT (fun F0=>?_)
 refine AG (?_)
 refine AB kR (AA (AD (.slice none 0 0) rfl (AF (AC (?_)))))
 refine AG (?_)
 refine AG (?_)
 refine AB kR (AA (AE (vI n) rfl (AA (AE (vI 0) rfl (AF (AC (?_)))))))
 refine BR (?_)
 refine DH (fun mI FI wI=>∃ (k:Nat) (vo0_4:Value) (B:List Nat),k≤n.toNat∧mI=n.toNat - k∧(∃ F1,FI=FT F1 [(1,vN (.func f_v) #[] f_caps.toArray),(4,vo0_4),(6,vI n),(7,vI ((k:Nat):Int)),(18,undef)])∧St w O wI B∧EJ Enc.share 70 w.heap.size (B++O) wI vo0_4 (((List.range k).map f))∧(∀ b,vo0_4.ownBlock=some b→b∈B)) (n.toNat - (0)) ?_ ?_
 ·exact ⟨(0),(.slice none 0 0),[],oM,rfl,⟨_,AX _ ⟨rfl,rfl,rfl,(by rfl),rfl,trivial⟩⟩,s0,(by rw [show ((List.range (0)).map f)=[] from rfl];exact (EJ.nil Enc.share 70 _ _ _)),(by intro b hb;simp [Value.ownBlock] at hb)⟩
 ·intro ml0 F wl0 hI
  obtain ⟨k,vo0_4,Bl0,hr0_0,hm0,⟨Fl0,rfl⟩,sl0,ho0_4,hB0_4⟩:=hI
  refine AG (?_)
  refine AB kR (AA (DW .i64 ((k:Nat):Int) n rfl rfl (AF (AC (?_)))))
  refine AG (?_)
  refine AO (decide (((k:Nat):Int)<n)) rfl rfl (fun hc1383=>?_) (fun hc1383=>?_)
  ·have hp1384:((k:Nat):Int)<n:=by simpa using hc1383
   refine AU (AC (?_))
   refine AG (?_)
   refine BR (?_)
   refine AG (?_)
   refine AB kR (AA (AE (vI ((k:Nat):Int)) rfl (AA (AD (vI ((k:Nat):Int)) rfl (AF (AC (?_)))))))
   refine AB kR (AA (AE (vo0_4) rfl (AA (AE (vN (.func f_v) #[] f_caps.toArray) rfl (AA (AE (vI ((k:Nat):Int)) rfl (AA (PJ [] f_caps [vI ((k:Nat):Int)] h_f_e rfl (h_f wl0 (Bl0++O) sl0.keep (fun b hb=>(List.mem_append.1 hb).elim (fun h=>.inr (sl0.new b h).1) .inl) sl0.lt k  oM) rfl rfl sl0 fun v1385 w1386 s1387 m1388 k1389 r1390=>(?_)))))))))
   obtain ⟨cs1391,rfl,hs1392⟩:=r1390
   have ho0_4:=ho0_4.mv m1388 k1389 (by simp)
   refine AA (IK (E:=Enc.share) (xs:=[.tmp 13]) U32_ DM MT (by decide) [vA cs1391.toArray] [cs1391] [f k] rfl rfl rfl (Parts.cons rfl hs1392 (Parts.nil _ _ _)) oT s1387 fun v1397 w1393 s1394 m1395 k1396 hl1398=>(?_))
   have ho0_4:=ho0_4.mv m1395 k1396 (by simp)
   have:=hl1398.len_le
   refine AA (DG (E:=Enc.share) (l:=((List.range k).map f)) (m:=[f k]) U32_ i_70 rfl (by decide) rfl rfl ho0_4 hl1398 (fun _ hb=>.inl hb) hB0_4 (by simp;omega) (by simp [maxLen];omega) s1394 fun v1403 w1399 B1405 hB1406 at1407 sub1408 s1400 m1401 k1402 ho1404=>(?_))
   refine AA (AD (v1403) rfl (AF (CI (AC (?_)))))
   refine AB kR (AA (DC .i64 ((k:Nat):Int) (1:Int) (((k+1:Nat):Int)) rfl rfl (FO oM oM) (AA (AE (vI ((k+1:Nat):Int)) rfl (AF (AC (?_)))))))
   exact ⟨_,oM,(k+1),v1403,B1405,oM,rfl,⟨_,AX _ ⟨rfl,rfl,rfl,(by rfl),rfl,trivial⟩⟩,s1400,(by rw [show ((List.range (k+1)).map f)=((List.range k).map f)++([f k]) from by simp [List.range_succ]];exact ho1404),hB1406⟩
  ·have hp1409:n≤((k:Nat):Int):=by simpa using hc1383
   obtain rfl:k=n.toNat:=by omega
   refine DE (CC (CC (CY (AC (?_)))))
   refine AG (?_)
   refine AB kR (AA (AE (vo0_4) rfl (AA (AD (vo0_4) rfl (AF (AC (?_)))))))
   refine AP (AZ rfl (CS rfl rfl rfl) (?_))
   have e:((List.range (n).toNat).map f)=((List.range n.toNat).map f):=rfl
   exact ⟨_,rfl,sl0.keep,by rw [e];exact ⟨vo0_4,rfl,ho0_4.pub sl0⟩⟩
set_option maxHeartbeats 4000000 in
set_option maxRecDepth 100000 in
theorem KC {O:List Nat} (n:Int) (f_v:Nat) (f_caps:List Value) (f:Nat→UInt8) (w:World) (h_f_e:∀ (vs_:Array Value) (w:World),(callFunc f_v vs_).run Try.prog w = .ok (.enter f_v vs_) w) (h_f:∀ (w':World) (O':List Nat),Keep [] w w'→(∀ b∈O',b∈O∨w.heap.size≤b)→(∀ b∈O',b<w'.heap.size)→∀ (i:Nat),(i:Int)<n→CF Try.prog f_v ([vI (i:Int)]++f_caps) w' (fun v w2=>v=vB (f i))) (hpre0:n≤1000000) (hO:∀ b∈O,b<w.heap.size):CF Try.prog 49 [vI n, .func (.func f_v) #[] f_caps.toArray] w (fun v w'=>∃ (x0:Value),v=x0∧BG Enc.u8 w' (O) x0 ((List.range (n).toNat).map f)):= by
 have s0:St w O w []:=St.start hO
 refine BQ 18 Try.func49 rfl rfl oT (fun F0=>?_)
 refine AG (?_)
 refine AB kR (AA (AD (.slice none 0 0) rfl (AF (AC (?_)))))
 refine AG (?_)
 refine AG (?_)
 refine AB kR (AA (AE (vI n) rfl (AA (AE (vI 0) rfl (AF (AC (?_)))))))
 refine BR (?_)
 refine DH (fun mI FI wI=>∃ (k:Nat) (vo0_4:Value) (B:List Nat),k≤n.toNat∧mI=n.toNat - k∧(∃ F1,FI=FT F1 [(1,vN (.func f_v) #[] f_caps.toArray),(4,vo0_4),(6,vI n),(7,vI ((k:Nat):Int)),(18,undef)])∧St w O wI B∧EJ Enc.u8 5 w.heap.size (B++O) wI vo0_4 (((List.range k).map f))∧(∀ b,vo0_4.ownBlock=some b→b∈B)) (n.toNat - (0)) ?_ ?_
 ·exact ⟨(0),(.slice none 0 0),[],oM,rfl,⟨_,AX _ ⟨rfl,rfl,rfl,(by rfl),rfl,trivial⟩⟩,s0,(by rw [show ((List.range (0)).map f)=[] from rfl];exact (EJ.nil Enc.u8 5 _ _ _)),(by intro b hb;simp [Value.ownBlock] at hb)⟩
 ·intro ml0 F wl0 hI
  obtain ⟨k,vo0_4,Bl0,hr0_0,hm0,⟨Fl0,rfl⟩,sl0,ho0_4,hB0_4⟩:=hI
  refine AG (?_)
  refine AB kR (AA (DW .i64 ((k:Nat):Int) n rfl rfl (AF (AC (?_)))))
  refine AG (?_)
  refine AO (decide (((k:Nat):Int)<n)) rfl rfl (fun hc1410=>?_) (fun hc1410=>?_)
  ·have hp1411:((k:Nat):Int)<n:=by simpa using hc1410
   refine AU (AC (?_))
   refine AG (?_)
   refine BR (?_)
   refine AG (?_)
   refine AB kR (AA (AE (vI ((k:Nat):Int)) rfl (AA (AD (vI ((k:Nat):Int)) rfl (AF (AC (?_)))))))
   refine AB kR (AA (AE (vo0_4) rfl (AA (AE (vN (.func f_v) #[] f_caps.toArray) rfl (AA (AE (vI ((k:Nat):Int)) rfl (AA (PJ [] f_caps [vI ((k:Nat):Int)] h_f_e rfl (h_f wl0 (Bl0++O) sl0.keep (fun b hb=>(List.mem_append.1 hb).elim (fun h=>.inr (sl0.new b h).1) .inl) sl0.lt k  oM) rfl rfl sl0 fun v1412 w1413 s1414 m1415 k1416 r1417=>(?_)))))))))
   obtain rfl:=r1417
   have ho0_4:=ho0_4.mv m1415 k1416 (by simp)
   refine AA (IK (E:=Enc.u8) (xs:=[.tmp 13]) U23_ IJ z_5 (by decide) [vB (f k)] [[vB (f k)]] [f k] rfl rfl rfl (Parts.cons rfl rfl (Parts.nil _ _ _)) oT s1414 fun v1422 w1418 s1419 m1420 k1421 hl1423=>(?_))
   have ho0_4:=ho0_4.mv m1420 k1421 (by simp)
   have:=hl1423.len_le
   refine AA (DG (E:=Enc.u8) (l:=((List.range k).map f)) (m:=[f k]) U23_ i_5 rfl (by decide) rfl rfl ho0_4 hl1423 (fun _ hb=>.inl hb) hB0_4 (by simp;omega) (by simp [maxLen];omega) s1419 fun v1428 w1424 B1430 hB1431 at1432 sub1433 s1425 m1426 k1427 ho1429=>(?_))
   refine AA (AD (v1428) rfl (AF (CI (AC (?_)))))
   refine AB kR (AA (DC .i64 ((k:Nat):Int) (1:Int) (((k+1:Nat):Int)) rfl rfl (FO oM oM) (AA (AE (vI ((k+1:Nat):Int)) rfl (AF (AC (?_)))))))
   exact ⟨_,oM,(k+1),v1428,B1430,oM,rfl,⟨_,AX _ ⟨rfl,rfl,rfl,(by rfl),rfl,trivial⟩⟩,s1425,(by rw [show ((List.range (k+1)).map f)=((List.range k).map f)++([f k]) from by simp [List.range_succ]];exact ho1429),hB1431⟩
  ·have hp1434:n≤((k:Nat):Int):=by simpa using hc1410
   obtain rfl:k=n.toNat:=by omega
   refine DE (CC (CC (CY (AC (?_)))))
   refine AG (?_)
   refine AB kR (AA (AE (vo0_4) rfl (AA (AD (vo0_4) rfl (AF (AC (?_)))))))
   refine AP (AZ rfl (CS rfl rfl rfl) (?_))
   have e:((List.range (n).toNat).map f)=((List.range n.toNat).map f):=rfl
   exact ⟨_,rfl,sl0.keep,by rw [e];exact ⟨vo0_4,rfl,ho0_4.pub sl0⟩⟩
set_option maxHeartbeats 4000000 in
set_option maxRecDepth 100000 in
theorem c_split21 {O:List Nat} (i:Nat) (polys_a:Addr) (polys:(List (List UInt8))) (k_a:Addr) (k:Int) (w:World) (h_polys:PT (Enc.slice (Enc.slice Enc.u8)) w O (.pointer (some polys_a)) polys) (h_k:PT Enc.int w O (.pointer (some k_a)) k) (hpre0:i<polys.length) (hpre1:0≤k) (hpre2:k<1000) (hO:∀ b∈O,b<w.heap.size):CF Try.prog 50 [vI (i:Int), .pointer (some polys_a), .pointer (some k_a)] w (fun v _=>v=vB (EG polys[i]! (GP (k+1)))):= by
 have h_polys:PT (Enc.slice (Enc.slice Enc.u8)) w ([]++O) (.pointer (some polys_a)) polys:=h_polys
 have h_k:PT Enc.int w ([]++O) (.pointer (some k_a)) k:=h_k
 have s0:St w O w []:=St.start hO
 refine BQ 13 Try.func50 rfl rfl oT (fun F0=>?_)
 refine AG (?_)
 refine AB kR (AA (AD (vB (0:UInt8)) rfl (AF (AC (?_)))))
 refine AG (?_)
 refine cw_draw' 7 _ _ [fun (vT:Value) (wT:World)=>BG (Enc.slice Enc.u8) wT ([]++O) vT (polys),DF (vI (i:Int)),fun (vT:Value) (wT:World)=>∃ aT,vT = .pointer (some aT)∧PT (Enc.slice Enc.u8) wT ([]++O) (.pointer (some aT)) (polys[i]!),fun (vT:Value) (wT:World)=>BG Enc.u8 wT ([]++O) vT (polys[i]!),DF (vI k),DF (vI (k+(1:Int))),DF (vB (GP (k+(1:Int))))] kR kR kR kR rfl rfl ⟨fun _ _ _ h k=>h.mv (Mv.of_keep k),kI,fun _ _ _ ⟨a,e,h⟩ k=>⟨a,e,h.mv (Mv.of_keep k)⟩,fun _ _ _ h k=>h.mv (Mv.of_keep k),kI,kI,kI,trivial⟩ ⟨?_,?_,?_,?_,?_,?_,?_,trivial⟩ ?_
 ·intro F1 w1 k1 hf hd
  have k0:=(Keep.drew [] w).trans k1
  have m1:Mv ([]) w ([]) w1:=Mv.of_keep k0
  have h_polys:=h_polys.mv m1
  obtain ⟨F2,rfl⟩:=AL (F:=F1) [(1,vP (some polys_a))] ⟨hf 1 kR,trivial⟩
  refine AH rfl ((BW U83_ rfl rfl h_polys fun v1435 hl1436=>(?_)))
  have:=hl1436.len_le
  exact ⟨(Keep.refl _ _),hl1436⟩
 ·intro F1 w1 k1 hf hd
  obtain ⟨F2,rfl⟩:=AL (F:=F1) [(0,vI (i:Int))] ⟨hf 0 kR,trivial⟩
  exact AH rfl ((AE (vI (i:Int)) rfl (⟨(Keep.refl _ _),rfl⟩)))
 ·intro F1 w1 k1 hf hd
  obtain ⟨v1437,e1439,hl1438⟩:∃ v,F1 5=v∧BG (Enc.slice Enc.u8) w1 ([]++O) v (polys):=⟨_,rfl,hd 0 5 kR⟩
  have:=hl1438.len_le
  obtain ⟨F2,rfl⟩:=AL (F:=F1) [(5,v1437),(6,vI (i:Int))] ⟨e1439,hd 1 6 kR,trivial⟩
  exact AH rfl ((DI U83_ s_23 .i64 (i:Int) i rfl rfl rfl hl1438 oM fun a1440 hp1441=>(⟨(Keep.refl _ _),⟨a1440,rfl,hp1441⟩⟩)))
 ·intro F1 w1 k1 hf hd
  obtain ⟨a1442,e1444,hp1443⟩:∃ aX_,F1 7 = .pointer (some aX_)∧PT (Enc.slice Enc.u8) w1 ([]++O) (.pointer (some aX_)) (polys[i]!):=hd 2 7 kR
  obtain ⟨F2,rfl⟩:=AL (F:=F1) [(7,vP (some a1442))] ⟨e1444,trivial⟩
  refine AH rfl ((BW U23_ rfl rfl hp1443 fun v1445 hl1446=>(?_)))
  have:=hl1446.len_le
  exact ⟨(Keep.refl _ _),hl1446⟩
 ·intro F1 w1 k1 hf hd
  have k0:=(Keep.drew [] w).trans k1
  have m1:Mv ([]) w ([]) w1:=Mv.of_keep k0
  have h_k:=h_k.mv m1
  obtain ⟨F2,rfl⟩:=AL (F:=F1) [(2,vP (some k_a))] ⟨hf 2 kR,trivial⟩
  exact AH rfl ((CE U3_ rfl rfl h_k (⟨(Keep.refl _ _),rfl⟩)))
 ·intro F1 w1 k1 hf hd
  obtain ⟨F2,rfl⟩:=AL (F:=F1) [(9,vI k)] ⟨hd 4 9 kR,trivial⟩
  exact AH rfl ((DC .i64 k (1:Int) (k+(1:Int)) rfl rfl (FO oM oM) (⟨(Keep.refl _ _),rfl⟩)))
 ·intro F1 w1 k1 hf hd
  obtain ⟨F2,rfl⟩:=AL (F:=F1) [(10,vI (k+(1:Int)))] ⟨hd 5 10 kR,trivial⟩
  exact AH rfl ((o_u8of .i64 U3_ U5_ (k+(1:Int)) rfl (⟨(Keep.refl _ _),rfl⟩)))
 intro F1448 w1449 k1447 hT1450 hF1451
 have s1452:=s0.call k1447
 obtain ⟨v1456,e1458,hl1457⟩:∃ v,F1448 8=v∧BG Enc.u8 w1449 ([]++O) v (polys[i]!):=⟨_,rfl,hT1450 3 8 kR (by decide)⟩
 have:=hl1457.len_le
 obtain ⟨F2,rfl⟩:=AL (F:=F1448) [(4,vB (0:UInt8)),(13,undef),(8,v1456),(11,vB (GP (k+(1:Int))))] ⟨hF1451 4 kR,hF1451 13 kR,e1458,hT1450 6 11 kR (by decide),trivial⟩
 clear hT1450 hF1451
 refine AA (BB (vs:=[v1456,vB (GP (k+(1:Int)))]) UC (c_eval (O:=[]++O) v1456 (polys[i]!) (GP (k+(1:Int))) w1449 hl1457 s1452.lt) rfl s1452 fun v1459 w1460 s1461 m1462 k1463 r1464=>(?_))
 obtain rfl:=r1464
 refine AA (AD (vB (EG (polys[i]!) (GP (k+(1:Int))))) rfl (AF (AC (?_))))
 refine AP (AZ rfl (CS rfl rfl rfl) (?_))
 have e:(EG polys[i]! (GP (k+1)))=(EG (polys[i]!) (GP (k+(1:Int)))):=rfl
 exact ⟨_,rfl,s1461.keep,by rw [e];exact rfl⟩
set_option maxHeartbeats 4000000 in
set_option maxRecDepth 100000 in
theorem c_split2 {O:List Nat} (k:Nat) (secret_a:Addr) (secret:(List UInt8)) (polys_a:Addr) (polys:(List (List UInt8))) (epoch_a:Addr) (epoch:Int) (threshold_a:Addr) (threshold:Int) (many_a:Addr) (many:Int) (w:World) (h_secret:PT (Enc.slice Enc.u8) w O (.pointer (some secret_a)) secret) (h_polys:PT (Enc.slice (Enc.slice Enc.u8)) w O (.pointer (some polys_a)) polys) (h_epoch:PT Enc.int w O (.pointer (some epoch_a)) epoch) (h_threshold:PT Enc.int w O (.pointer (some threshold_a)) threshold) (h_many:PT Enc.int w O (.pointer (some many_a)) many) (hpre0:polys.length=secret.length) (hpre1:(k:Int)<many) (hpre2:many≤8) (hpre3:secret.length≤64) (hO:∀ b∈O,b<w.heap.size):CF Try.prog 48 [vI (k:Int), .pointer (some secret_a), .pointer (some polys_a), .pointer (some epoch_a), .pointer (some threshold_a), .pointer (some many_a)] w (fun v w'=>∃ (x0:List Value),v = .agg x0.toArray∧Enc.share.rd w' (O) x0 (EX secret polys epoch threshold many k)):= by
 have h_secret:PT (Enc.slice Enc.u8) w ([]++O) (.pointer (some secret_a)) secret:=h_secret
 have h_polys:PT (Enc.slice (Enc.slice Enc.u8)) w ([]++O) (.pointer (some polys_a)) polys:=h_polys
 have h_epoch:PT Enc.int w ([]++O) (.pointer (some epoch_a)) epoch:=h_epoch
 have h_threshold:PT Enc.int w ([]++O) (.pointer (some threshold_a)) threshold:=h_threshold
 have h_many:PT Enc.int w ([]++O) (.pointer (some many_a)) many:=h_many
 have s0:St w O w []:=St.start hO
 refine BQ 20 Try.func48 rfl rfl oT (fun F0=>?_)
 refine AG (?_)
 refine AB kR (AA (DO (E:=Enc.int) (vI (k:Int)) ([vI (k:Int)]) (k:Int) rfl rfl rfl s0 fun a1465 w1466 s1467 m1468 k1469 hp1470=>(?_)))
 have h_secret:=h_secret.mv m1468
 have h_polys:=h_polys.mv m1468
 have h_epoch:=h_epoch.mv m1468
 have h_threshold:=h_threshold.mv m1468
 have h_many:=h_many.mv m1468
 refine AA (CX [vI 0,vI 0,vI 0,vI 0,nS] MT rfl s1467 fun b1471 w1472 e1477 s1473 m1474 k1475 bx1476=>(?_))
 clear e1477
 have h_secret:=h_secret.mv m1474
 have h_polys:=h_polys.mv m1474
 have h_epoch:=h_epoch.mv m1474
 have h_threshold:=h_threshold.mv m1474
 have h_many:=h_many.mv m1474
 have hp1470:=hp1470.mv m1474
 refine AF (AC (?_))
 refine AG (?_)
 refine AB kR (AA (BW U23_ rfl rfl h_secret fun v1478 hl1479=>(?_)))
 have:=hl1479.len_le
 refine AA (CG U23_ rfl hl1479 (AA (DD (first:=[]) (captured:=[.tmp 2, .tmp 6]) [] [vP (some polys_a),vP (some a1465)] rfl rfl (AA (BB (vs:=[vI (secret.length:Int),vN (.func 50) #[] #[vP (some polys_a),vP (some a1465)]]) NU (KC (O:=(b1471 :: [])++O) (secret.length:Int) 50 [vP (some polys_a),vP (some a1465)] (fun i_=>EG polys[i_]! (GP ((k:Int)+1))) w1472 enter_50 (fun w'_ O'_ kk_ hs_ hl_ i_  hc_=>c_split21 (O:=O'_) i_ polys_a polys a1465 (k:Int) w'_ (h_polys.on hs_ kk_) (hp1470.on hs_ kk_) oM oM oM hl_) oM s1473.lt) rfl s1473 fun v1480 w1481 s1482 m1483 k1484 r1485=>(?_))))))
 obtain ⟨_,rfl,hl1486⟩:=r1485
 have:=hl1486.len_le
 have h_epoch:=h_epoch.mv m1483
 have h_threshold:=h_threshold.mv m1483
 have h_many:=h_many.mv m1483
 have hp1470:=hp1470.mv m1483
 have bx1476:=bx1476.keep k1484 (by simp)
 refine AA (AD (v1480) rfl (AF (AC (?_))))
 refine AG (?_)
 refine AB kR (AA (CE U3_ rfl rfl h_epoch (AA (CE U3_ rfl rfl hp1470 (AA (DC .i64 (k:Int) (1:Int) ((k:Int)+(1:Int)) rfl rfl (FO oM oM) (AA (CE U3_ rfl rfl h_threshold (AA (CE U3_ rfl rfl h_many (AA (AE (v1480) rfl (AA (EE (l:=[(0, .tmp 13),(1, .tmp 15),(2, .tmp 16),(3, .tmp 17),(4, .tmp 18)]) pl_70 MT rfl [(0,vI epoch,[vI epoch]),(1,vI ((k:Int)+(1:Int)),[vI ((k:Int)+(1:Int))]),(2,vI threshold,[vI threshold]),(3,vI many,[vI many]),(4,v1480,[v1480])] [vI epoch,vI ((k:Int)+(1:Int)),vI threshold,vI many,v1480] rfl ⟨_,rfl,rfl,oT,⟨_,rfl,rfl,oT,⟨_,rfl,rfl,oT,⟨_,rfl,rfl,oT,⟨_,rfl,(FD hl1486.oneCell),oT,rfl⟩⟩⟩⟩⟩ (BY (BC (vs:=[vI epoch,vI ((k:Int)+(1:Int)),vI threshold,vI many,v1480]) (.agg #[vI epoch,vI ((k:Int)+(1:Int)),vI threshold,vI many,v1480]) rfl rfl rfl DM (fun u hu=>by simp only [List.mem_cons,List.not_mem_nil,or_false] at hu;rcases hu with rfl|rfl|rfl|rfl|rfl <;> first|rfl|exact hl1486.oneCell) (by repeat (constructor)) bx1476 oT s1482 fun w1487 s1488 m1489 k1490 bx1491=>(?_)))))))))))))))))
 have hl1486:=hl1486.mv m1489
 refine AF (AC (?_))
 refine AP (AZ rfl (rescA (vs:=[vI epoch,vI ((k:Int)+(1:Int)),vI threshold,vI many,v1480]) rfl rfl U70_ rfl DM rfl bx1491 rfl) (?_))
 have e:(EX secret polys epoch threshold many k)=(⟨epoch,(k:Int)+(1:Int),threshold,many,(List.range ((secret.length:Int)).toNat).map (fun i_=>EG polys[i_]! (GP ((k:Int)+1)))⟩:Share):=rfl
 exact ⟨_,rfl,s1488.keep,by rw [e];exact ⟨[vI epoch,vI ((k:Int)+(1:Int)),vI threshold,vI many,v1480],rfl,Enc.out (B:=(b1471 :: [])) ⟨_,rfl,hl1486⟩⟩⟩
set_option maxHeartbeats 4000000 in
set_option maxRecDepth 100000 in
theorem c_split {O:List Nat} (secret_v:Value) (secret:List UInt8) (epoch:Int) (threshold:Int) (many:Int) (coins_v:Value) (coins:List UInt8) (w:World) (h_secret:BG Enc.u8 w O secret_v secret) (h_coins:BG Enc.u8 w O coins_v coins) (hO:∀ b∈O,b<w.heap.size):CF Try.prog 16 [secret_v,vI epoch,vI threshold,vI many,coins_v] w (fun v w'=>∃ (x0:Value),v = .tuple #[x0,vI ((BV secret epoch threshold many coins).2)]∧BG Enc.share w' (O) x0 ((BV secret epoch threshold many coins).1)):= by
 have lim_secret:=h_secret.len_le
 have h_secret:BG Enc.u8 w ([]++O) secret_v secret:=h_secret
 have lim_coins:=h_coins.len_le
 have h_coins:BG Enc.u8 w ([]++O) coins_v coins:=h_coins
 have s0:St w O w []:=St.start hO
 refine BQ 53 Try.func16 rfl rfl oT (fun F0=>?_)
 refine AG (?_)
 refine AB kR (AA (DO (E:=(Enc.slice Enc.u8)) (secret_v) ([secret_v]) secret rfl (FD h_secret.oneCell) ⟨_,rfl,h_secret⟩ s0 fun a1492 w1493 s1494 m1495 k1496 hp1497=>(?_)))
 have h_coins:=h_coins.mv m1495
 refine AA (DO (E:=Enc.int) (vI epoch) ([vI epoch]) epoch rfl rfl rfl s1494 fun a1498 w1499 s1500 m1501 k1502 hp1503=>(?_))
 have h_coins:=h_coins.mv m1501
 have hp1497:=hp1497.mv m1501
 refine AA (DO (E:=Enc.int) (vI threshold) ([vI threshold]) threshold rfl rfl rfl s1500 fun a1504 w1505 s1506 m1507 k1508 hp1509=>(?_))
 have h_coins:=h_coins.mv m1507
 have hp1497:=hp1497.mv m1507
 have hp1503:=hp1503.mv m1507
 refine AA (DO (E:=Enc.int) (vI many) ([vI many]) many rfl rfl rfl s1506 fun a1510 w1511 s1512 m1513 k1514 hp1515=>(?_))
 have h_coins:=h_coins.mv m1513
 have hp1497:=hp1497.mv m1513
 have hp1503:=hp1503.mv m1513
 have hp1509:=hp1509.mv m1513
 refine AA (DO (E:=(Enc.slice Enc.u8)) (coins_v) ([coins_v]) coins rfl (FD h_coins.oneCell) ⟨_,rfl,h_coins⟩ s1512 fun a1516 w1517 s1518 m1519 k1520 hp1521=>(?_))
 have hp1497:=hp1497.mv m1519
 have hp1503:=hp1503.mv m1519
 have hp1509:=hp1509.mv m1519
 have hp1515:=hp1515.mv m1519
 refine AA (AD (nS) rfl (AA (AD (vI 0) rfl (AF (AC (?_))))))
 refine AG (?_)
 refine BR (?_)
 refine AG (?_)
 refine AB kR (AA (BW U23_ rfl rfl hp1497 fun v1522 hl1523=>(?_)))
 have:=hl1523.len_le
 refine AA (CG U23_ rfl hl1523 (AA (FW .i64 (secret.length:Int) (64:Int) rfl rfl (AA (AD (vO (decide ((64:Int)<(secret.length:Int)))) rfl (AF (AC (?_))))))))
 refine AO (decide ((64:Int)<(secret.length:Int))) rfl rfl (fun hc1524=>?_) (fun hc1524=>?_)
 ·have hp1525:(64:Int)<(secret.length:Int):=by simpa using hc1524
  refine AG (?_)
  refine AB kR (AA (AD (nS) rfl (AA (AD (vI 1) rfl (AF (AC (?_)))))))
  refine AP (CB (AR (AZ rfl (FF rfl rfl rfl rfl) (?_))))
  have e:(BV secret epoch threshold many coins)=([],(1:Int)):=by exact HN (by unfold ED;((repeat ((refine (if_pos ?_).trans ?_;omega)));rfl)) (by decide)
  exact ⟨_,rfl,s1518.keep,by rw [e];exact ⟨.slice none 0 0,rfl,BG.nil _ _ _⟩⟩
 ·have hp1526:(secret.length:Int)≤(64:Int):=by simpa using hc1524
  refine AG (?_)
  refine AB kR (AA (CE U3_ rfl rfl hp1509 (AA (DW .i64 threshold (1:Int) rfl rfl (AA (AE (vO (decide (threshold<(1:Int)))) rfl (?_)))))))
  cases hb1527:(decide (threshold<(1:Int)))
  ·have hp1528:(1:Int)≤threshold:=by simpa using hb1527
   refine BE rfl (CE U3_ rfl rfl hp1509 (BE rfl (CE U3_ rfl rfl hp1515 (BE rfl (FW .i64 threshold many rfl rfl (AA (BX (vO (decide (many<threshold))) rfl rfl (AA (AE (vO (decide (many<threshold))) rfl (?_))))))))))
   cases hb1529:(decide (many<threshold))
   ·have hp1530:threshold≤many:=by simpa using hb1529
    refine BE rfl (CE U3_ rfl rfl hp1515 (BE rfl (FW .i64 many (8:Int) rfl rfl (AA (BX (vO (decide ((8:Int)<many))) rfl rfl (AA (AD (vO (decide ((8:Int)<many))) rfl (AF (AC (?_))))))))))
    refine AO (decide ((8:Int)<many)) rfl rfl (fun hc1531=>?_) (fun hc1531=>?_)
    ·have hp1532:(8:Int)<many:=by simpa using hc1531
     refine AG (?_)
     refine AB kR (AA (AD (nS) rfl (AA (AD (vI 80) rfl (AF (AC (?_)))))))
     refine AP (CB (AR (AZ rfl (FF rfl rfl rfl rfl) (?_))))
     have e:(BV secret epoch threshold many coins)=([],(80:Int)):=by exact HN (by unfold ED;((repeat (first|(refine (if_pos ?_).trans ?_;omega)|(refine (if_neg ?_).trans ?_;omega)));rfl)) (by decide)
     exact ⟨_,rfl,s1518.keep,by rw [e];exact ⟨.slice none 0 0,rfl,BG.nil _ _ _⟩⟩
    ·have hp1533:many≤(8:Int):=by simpa using hc1531
     refine AG (?_)
     refine AB kR (AA (CE U3_ rfl rfl hp1503 (AA (DW .i64 epoch (0:Int) rfl rfl (AA (AE (vO (decide (epoch<(0:Int)))) rfl (?_)))))))
     cases hb1534:(decide (epoch<(0:Int)))
     ·have hp1535:(0:Int)≤epoch:=by simpa using hb1534
      refine BE rfl (CE U3_ rfl rfl hp1503 (BE rfl (FW .i64 epoch (1048576:Int) rfl rfl (AA (BX (vO (decide ((1048576:Int)<epoch))) rfl rfl (AA (AD (vO (decide ((1048576:Int)<epoch))) rfl (AF (AC (?_))))))))))
      refine AO (decide ((1048576:Int)<epoch)) rfl rfl (fun hc1536=>?_) (fun hc1536=>?_)
      ·have hp1537:(1048576:Int)<epoch:=by simpa using hc1536
       refine AG (?_)
       refine AB kR (AA (AD (nS) rfl (AA (AD (vI 81) rfl (AF (AC (?_)))))))
       refine AP (CB (AR (AZ rfl (FF rfl rfl rfl rfl) (?_))))
       have e:(BV secret epoch threshold many coins)=([],(81:Int)):=by exact HN (by unfold ED;((repeat (first|(refine (if_pos ?_).trans ?_;omega)|(refine (if_neg ?_).trans ?_;omega)));rfl)) (by decide)
       exact ⟨_,rfl,s1518.keep,by rw [e];exact ⟨.slice none 0 0,rfl,BG.nil _ _ _⟩⟩
      ·have hp1538:epoch≤(1048576:Int):=by simpa using hc1536
       refine AG (?_)
       refine AB kR (AA (BW U23_ rfl rfl hp1521 fun v1539 hl1540=>(?_)))
       have:=hl1540.len_le
       refine AA (CG U23_ rfl hl1540 (AA (BW U23_ rfl rfl hp1497 fun v1541 hl1542=>(?_))))
       have:=hl1542.len_le
       refine AA (CG U23_ rfl hl1542 (AA (CE U3_ rfl rfl hp1509 (AA (HW .i64 threshold (1:Int) (threshold - (1:Int)) rfl rfl (FO oM oM) (AA (o_mul .i64 (secret.length:Int) (threshold - (1:Int)) ((secret.length:Int)*(threshold - (1:Int))) rfl rfl (FO (mulb oM oM oM oM) rfl) (AA (CV .i64 (coins.length:Int) ((secret.length:Int)*(threshold - (1:Int))) rfl rfl (AA (AD (vO ((coins.length:Int) != ((secret.length:Int)*(threshold - (1:Int))))) rfl (AF (AC (?_))))))))))))))
       refine AO ((coins.length:Int) != ((secret.length:Int)*(threshold - (1:Int)))) rfl rfl (fun hc1543=>?_) (fun hc1543=>?_)
       ·have hp1544:(coins.length:Int)≠(secret.length:Int)*(threshold - (1:Int)):=by simpa using hc1543
        refine AG (?_)
        refine AB kR (AA (AD (nS) rfl (AA (AD (vI 1) rfl (AF (AC (?_)))))))
        refine AP (CB (AR (AZ rfl (FF rfl rfl rfl rfl) (?_))))
        have e:(BV secret epoch threshold many coins)=([],(1:Int)):=by exact HN (by unfold ED;((repeat (first|(refine (if_pos ?_).trans ?_;omega)|(refine (if_neg ?_).trans ?_;omega)));rfl)) (by decide)
        exact ⟨_,rfl,s1518.keep,by rw [e];exact ⟨.slice none 0 0,rfl,BG.nil _ _ _⟩⟩
       ·have hp1545:(coins.length:Int)=(secret.length:Int)*(threshold - (1:Int)):=by simpa using hc1543
        refine AU (CI (AC (?_)))
        refine AG (?_)
        refine AB kR (AA (BW U23_ rfl rfl hp1497 fun v1546 hl1547=>(?_)))
        have:=hl1547.len_le
        refine AA (CG U23_ rfl hl1547 (AA (DD (first:=[]) (captured:=[.tmp 5, .tmp 9, .tmp 7]) [] [vP (some a1492),vP (some a1516),vP (some a1504)] rfl rfl (AA (BB (vs:=[vI (secret.length:Int),vN (.func 45) #[] #[vP (some a1492),vP (some a1516),vP (some a1504)]]) enter_44 (c_collectL (O:=[]++O) (secret.length:Int) 45 [vP (some a1492),vP (some a1516),vP (some a1504)] (fun i_=>LP secret coins threshold i_) w1517 enter_45 (fun w'_ O'_ kk_ hs_ hl_ i_  hc_=>c_split1 (O:=O'_) i_ a1492 secret a1516 coins a1504 threshold w'_ (hp1497.on hs_ kk_) (hp1521.on hs_ kk_) (hp1509.on hs_ kk_) oM oM oM oM oM hl_) oM s1518.lt) rfl s1518 fun v1548 w1549 s1550 m1551 k1552 r1553=>(?_))))))
        obtain ⟨_,rfl,hl1554⟩:=r1553
        have:=hl1554.len_le
        have hp1497:=hp1497.mv m1551
        have hp1503:=hp1503.mv m1551
        have hp1509:=hp1509.mv m1551
        have hp1515:=hp1515.mv m1551
        refine AA (CX [nS] z_83 rfl s1550 fun b1555 w1556 e1561 s1557 m1558 k1559 bx1560=>(?_))
        clear e1561
        have hp1497:=hp1497.mv m1558
        have hp1503:=hp1503.mv m1558
        have hp1509:=hp1509.mv m1558
        have hp1515:=hp1515.mv m1558
        have hl1554:=hl1554.mv m1558
        refine BY (CK (v1548) rfl rfl hl1554.oneCell s_83 (by repeat (constructor)) bx1560 oT s1557 fun w1562 s1563 m1564 k1565 bx1566=>(?_))
        have hp1497:=hp1497.mv m1564
        have hp1503:=hp1503.mv m1564
        have hp1509:=hp1509.mv m1564
        have hp1515:=hp1515.mv m1564
        have hl1554:=hl1554.mv m1564
        refine AF (AC (?_))
        refine AG (?_)
        refine AB kR (AA (CE U3_ rfl rfl hp1515 (?_)))
        obtain ⟨B1567,s1568,m1569,hp1570,hk1571⟩:=bx1566.publish (E:=(Enc.slice (Enc.slice Enc.u8))) (u:=(List.range ((secret.length:Int)).toNat).map (fun i_=>LP secret coins threshold i_)) ⟨_,rfl,hl1554⟩ s1563 (by repeat (constructor))
        have hp1497:=hp1497.mv m1569
        have hp1503:=hp1503.mv m1569
        have hp1509:=hp1509.mv m1569
        have hp1515:=hp1515.mv m1569
        refine AA (DD (first:=[]) (captured:=[.tmp 5, .tmp 12, .tmp 6, .tmp 7, .tmp 8]) [] [vP (some a1492),vP (some ⟨b1555,0,none⟩),vP (some a1498),vP (some a1504),vP (some a1510)] rfl rfl (AA (BB (vs:=[vI many,vN (.func 48) #[] #[vP (some a1492),vP (some ⟨b1555,0,none⟩),vP (some a1498),vP (some a1504),vP (some a1510)]]) TP (PF (O:=B1567++O) many 48 [vP (some a1492),vP (some ⟨b1555,0,none⟩),vP (some a1498),vP (some a1504),vP (some a1510)] (fun i_=>EX secret ((List.range ((secret.length:Int)).toNat).map (fun i_=>LP secret coins threshold i_)) epoch threshold many i_) w1562 enter_48 (fun w'_ O'_ kk_ hs_ hl_ i_  hc_=>c_split2 (O:=O'_) i_ a1492 secret (⟨b1555,0,none⟩) ((List.range ((secret.length:Int)).toNat).map (fun i_=>LP secret coins threshold i_)) a1498 epoch a1504 threshold a1510 many w'_ (hp1497.on hs_ kk_) (hp1570.on hs_ kk_) (hp1503.on hs_ kk_) (hp1509.on hs_ kk_) (hp1515.on hs_ kk_) (by simp) oM oM oM hl_) oM s1568.lt) rfl s1568 fun v1572 w1573 s1574 m1575 k1576 r1577=>(?_))))
        obtain ⟨_,rfl,hl1578⟩:=r1577
        have:=hl1578.len_le
        refine AA (AD (v1572) rfl (AF (AC (?_))))
        refine AG (?_)
        refine AB kR (AA (AE (v1572) rfl (AA (AD (v1572) rfl (AA (AD (vI 0) rfl (AF (AC (?_)))))))))
        refine AP (AZ rfl (FF rfl rfl rfl rfl) (?_))
        have e:(BV secret epoch threshold many coins)=((List.range (many).toNat).map (fun i_=>EX secret ((List.range ((secret.length:Int)).toNat).map (fun i_=>LP secret coins threshold i_)) epoch threshold many i_),(0:Int)):=by exact splitM_ok (by unfold ED;((repeat ((refine (if_neg ?_).trans ?_;omega)));rfl)) rfl
        exact ⟨_,rfl,s1574.keep,by rw [e];exact ⟨v1572,rfl,hl1578.out⟩⟩
     ·have hp1579:epoch<(0:Int):=by simpa using hb1534
      refine AT rfl (AT rfl (AA (BK (vO true) rfl rfl (AA (AD (vO true) rfl (AF (AC (?_))))))))
      refine AO true rfl rfl (fun _=>?_) (fun h=>by cases h)
      refine AG (?_)
      refine AB kR (AA (AD (nS) rfl (AA (AD (vI 81) rfl (AF (AC (?_)))))))
      refine AP (CB (AR (AZ rfl (FF rfl rfl rfl rfl) (?_))))
      have e:(BV secret epoch threshold many coins)=([],(81:Int)):=by exact HN (by unfold ED;((repeat (first|(refine (if_pos ?_).trans ?_;omega)|(refine (if_neg ?_).trans ?_;omega)));rfl)) (by decide)
      exact ⟨_,rfl,s1518.keep,by rw [e];exact ⟨.slice none 0 0,rfl,BG.nil _ _ _⟩⟩
   ·have hp1580:many<threshold:=by simpa using hb1529
    refine AT rfl (AT rfl (AA (BK (vO true) rfl rfl (AA (AD (vO true) rfl (AF (AC (?_))))))))
    refine AO true rfl rfl (fun _=>?_) (fun h=>by cases h)
    refine AG (?_)
    refine AB kR (AA (AD (nS) rfl (AA (AD (vI 80) rfl (AF (AC (?_)))))))
    refine AP (CB (AR (AZ rfl (FF rfl rfl rfl rfl) (?_))))
    have e:(BV secret epoch threshold many coins)=([],(80:Int)):=by exact HN (by unfold ED;((repeat (first|(refine (if_pos ?_).trans ?_;omega)|(refine (if_neg ?_).trans ?_;omega)));rfl)) (by decide)
    exact ⟨_,rfl,s1518.keep,by rw [e];exact ⟨.slice none 0 0,rfl,BG.nil _ _ _⟩⟩
  ·have hp1581:threshold<(1:Int):=by simpa using hb1527
   refine AT rfl (AT rfl (AT rfl (AA (BK (vO true) rfl rfl (AA (AE (vO true) rfl (AT rfl (AT rfl (AA (BK (vO true) rfl rfl (AA (AD (vO true) rfl (AF (AC (?_)))))))))))))))
   refine AO true rfl rfl (fun _=>?_) (fun h=>by cases h)
   refine AG (?_)
   refine AB kR (AA (AD (nS) rfl (AA (AD (vI 80) rfl (AF (AC (?_)))))))
   refine AP (CB (AR (AZ rfl (FF rfl rfl rfl rfl) (?_))))
   have e:(BV secret epoch threshold many coins)=([],(80:Int)):=by exact HN (by unfold ED;((repeat (first|(refine (if_pos ?_).trans ?_;omega)|(refine (if_neg ?_).trans ?_;omega)));rfl)) (by decide)
   exact ⟨_,rfl,s1518.keep,by rw [e];exact ⟨.slice none 0 0,rfl,BG.nil _ _ _⟩⟩
end Go.Proofs.Ytjgfokolnkhafaa
