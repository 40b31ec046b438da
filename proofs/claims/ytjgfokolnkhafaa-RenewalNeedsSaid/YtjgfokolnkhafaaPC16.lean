/- What the laws of this part rest on: lemmas, and the walks of the functions. No conditions. -/
import Derived.WalkKit
import Derived.WalkSpells
import Derived.WalkLawsBesides
import Derived.RangeFuncLeaves
import Derived.Maps.AppendAt
import Derived.Deep.AppendLies
import Derived.Deep.Slices
import Derived.OpenShut
import Derived.ProofKit
import Derived.Below
import Derived.ChangeSame
import Derived.Carry
import Derived.RangeFuncRecord
import Derived.Laws.Tables
import Derived.Recover
import Derived.DefersIn
import Derived.Lib.AppendZerosOnto
import Derived.Lib.Overlaps
import Derived.Laws.CopyRow
import Derived.Laws.StructEq
import Derived.ChangeKeysEq
import Derived.OrdersIn
import Derived.Test.YtjgfokolnkhafaaRows
import Derived.Test.YtjgfokolnkhafaaPC15
set_option linter.unusedSimpArgs false
set_option linter.unusedVariables false
namespace Go.Proofs.Ytjgfokolnkhafaa
open Go.Fw Go.RowKit
def kC:Circle:=(JZ [3,5,8] 2 0).1
def kL:List Share:=(CV kC [7] [9]).1
def kX:Circle:=(AS kC kL [4]).1
def kA:Circle:=(BP kC 1).1
def MD:Circle:=(CH kA (BP kC 1).2.1 (BK kA 3)).1
def MC:Circle:=(CH MD (BP kC 1).2.1 (BK MD 8)).1
def CQ:Circle:=(CH MC (BP kC 1).2.1 (BY MC 1)).1
def kZ:Circle:=(AP CQ (kL.take 2) [(4:Int)] 1 []).1
def kW:List Share:=(AP CQ (kL.take 2) [(4:Int)] 1 []).2.1
def kE:Int:=(AP CQ (kL.take 2) [(4:Int)] 1 []).2.2
set_option maxHeartbeats 4000000 in
set_option maxRecDepth 100000 in
theorem c_sane46 {O:List Nat} (w:World) (hO:∀ b∈O,b<w.heap.size):CB Try.prog 20 [] w (fun v _=>v = .bool (true)):= by
 have s0:St w O w []:=St.start hO
 refine BI 252 Try.func20 rfl rfl oT (fun F0=>?_)
 refine AE (?_)
 refine AB kR (AA (AD (vO false) rfl (AF (AC (?_)))))
 refine AE (?_)
 refine AB kR (AA (IV (E:=Enc.int) (xs:=[.const (vI 3), .const (vI 5), .const (vI 8)]) U22_ MU z_3 (by decide) [vI 3,vI 5,vI 8] [[vI 3],[vI 5],[vI 8]] [(3:Int),(5:Int),(8:Int)] rfl rfl rfl (Parts.cons rfl rfl (Parts.cons rfl rfl (Parts.cons rfl rfl (Parts.nil _ _ _)))) oT s0 fun v7071 w7067 s7068 m7069 k7070 hl7072=>(?_)))
 have:=hl7072.len_le
 refine AA (AZ (vs:=[v7071,vI 2,vI 0]) enter_10 (c_new (O:=[]++O) v7071 ([(3:Int),(5:Int),(8:Int)]) (2:Int) (0:Int) w7067 hl7072 (by (simp;done)) s7068.lt) rfl s7068 fun v7073 w7074 s7075 m7076 k7077 r7078=>(?_))
 obtain ⟨cs7079,rfl,hs7080⟩:=r7078
 have hs7080:Enc.circle.rd w7074 ([]++O) cs7079 kC:=hs7080
 refine AA (AG (vT #[vA cs7079.toArray,vI ((JZ ([(3:Int),(5:Int),(8:Int)]) (2:Int) (0:Int)).2)]) rfl (AA (AK (vA cs7079.toArray) rfl rfl (AA (AK (vI ((JZ ([(3:Int),(5:Int),(8:Int)]) (2:Int) (0:Int)).2)) rfl rfl (AA (CU [vI 0,vI 0,vI 0,nS,nS] KY rfl s7075 fun b7081 w7082 e7087 s7083 m7084 k7085 bx7086=>(?_))))))))
 clear e7087
 have hs7080:Enc.circle.rd w7082 ((b7081 :: [])++O) cs7079 (kC):=Enc.mv Enc.circle (x:=kC) hs7080 m7084
 obtain ⟨d7093,d7095,rfl,hd7094,hd7096⟩:=hs7080
 have:=hd7094.len_le
 have:=hd7096.len_le
 refine BW (BC (vs:=[vI kC.epoch,vI kC.threshold,vI kC.wait,d7093,d7095]) (.agg #[vI kC.epoch,vI kC.threshold,vI kC.wait,d7093,d7095]) rfl rfl rfl BJ (fun u hu=>by simp only [List.mem_cons,List.not_mem_nil,or_false] at hu;rcases hu with rfl|rfl|rfl|rfl|rfl <;> first|rfl|exact hd7094.oneCell|exact hd7096.oneCell) (by repeat (constructor)) bx7086 oT s7083 fun w7088 s7089 m7090 k7091 bx7092=>(?_))
 have hd7094:=hd7094.mv m7090
 have hd7096:=hd7096.mv m7090
 refine AA (AD (vI ((JZ ([(3:Int),(5:Int),(8:Int)]) (2:Int) (0:Int)).2)) rfl (AF (AC (?_))))
 refine AE (?_)
 refine AB kR (AA (BM (vs:=[vI kC.epoch,vI kC.threshold,vI kC.wait,d7093,d7095]) U28_ rfl BJ rfl bx7092 rfl (AA (IV (E:=Enc.u8) (xs:=[.const (vB (7:UInt8))]) U23_ HY z_5 (by decide) [vB (7:UInt8)] [[vB (7:UInt8)]] [(7:UInt8)] rfl rfl rfl (Parts.cons rfl rfl (Parts.nil _ _ _)) oT s7089 fun v7101 w7097 s7098 m7099 k7100 hl7102=>(?_)))))
 have hd7094:=hd7094.mv m7099
 have hd7096:=hd7096.mv m7099
 have bx7092:=bx7092.keep k7100 (by simp)
 have:=hl7102.len_le
 refine AA (IV (E:=Enc.u8) (xs:=[.const (vB (9:UInt8))]) U23_ HY z_5 (by decide) [vB (9:UInt8)] [[vB (9:UInt8)]] [(9:UInt8)] rfl rfl rfl (Parts.cons rfl rfl (Parts.nil _ _ _)) oT s7098 fun v7107 w7103 s7104 m7105 k7106 hl7108=>(?_))
 have hd7094:=hd7094.mv m7105
 have hd7096:=hd7096.mv m7105
 have hl7102:=hl7102.mv m7105
 have bx7092:=bx7092.keep k7106 (by simp)
 have:=hl7108.len_le
 refine AA (AZ (vs:=[vA #[vI kC.epoch,vI kC.threshold,vI kC.wait,d7093,d7095],v7101,v7107]) PE (c_deal (O:=(b7081 :: [])++O) [vI kC.epoch,vI kC.threshold,vI kC.wait,d7093,d7095] kC v7101 ([(7:UInt8)]) v7107 ([(9:UInt8)]) w7103 ⟨_,_,rfl,hd7094,hd7096⟩ hl7102 hl7108 s7104.lt) rfl s7104 fun v7109 w7110 s7111 m7112 k7113 r7114=>(?_))
 obtain ⟨x7115,rfl,hl7116⟩:=r7114
 have:=hl7116.len_le
 have hl7116:BB Enc.share w7110 ((b7081 :: [])++O) x7115 kL:=hl7116
 have hd7094:=hd7094.mv m7112
 have hd7096:=hd7096.mv m7112
 have bx7092:=bx7092.keep k7113 (by simp)
 refine AA (AG (vT #[x7115,vI ((CV kC ([(7:UInt8)]) ([(9:UInt8)])).2)]) rfl (AA (AK (x7115) rfl rfl (AA (AK (vI ((CV kC ([(7:UInt8)]) ([(9:UInt8)])).2)) rfl rfl (AA (AD (x7115) rfl (AA (AD (vI ((CV kC ([(7:UInt8)]) ([(9:UInt8)])).2)) rfl (AF (AC (?_))))))))))))
 refine AE (?_)
 refine AB kR (AA (BM (vs:=[vI kC.epoch,vI kC.threshold,vI kC.wait,d7093,d7095]) U28_ rfl BJ rfl bx7092 rfl (AA (AG (x7115) rfl (AA (IV (E:=Enc.u8) (xs:=[.const (vB (4:UInt8))]) U23_ HY z_5 (by decide) [vB (4:UInt8)] [[vB (4:UInt8)]] [(4:UInt8)] rfl rfl rfl (Parts.cons rfl rfl (Parts.nil _ _ _)) oT s7111 fun v7121 w7117 s7118 m7119 k7120 hl7122=>(?_)))))))
 have hl7116:=hl7116.mv m7119
 have hd7094:=hd7094.mv m7119
 have hd7096:=hd7096.mv m7119
 have bx7092:=bx7092.keep k7120 (by simp)
 have:=hl7122.len_le
 refine AA (AZ (vs:=[vA #[vI kC.epoch,vI kC.threshold,vI kC.wait,d7093,d7095],x7115,v7121]) enter_24 (c_renew (O:=(b7081 :: [])++O) [vI kC.epoch,vI kC.threshold,vI kC.wait,d7093,d7095] kC x7115 kL v7121 ([(4:UInt8)]) w7117 ⟨_,_,rfl,hd7094,hd7096⟩ hl7116 hl7122 s7118.lt) rfl s7118 fun v7123 w7124 s7125 m7126 k7127 r7128=>(?_))
 obtain ⟨cs7129,x7131,rfl,hs7130,hl7132⟩:=r7128
 have:=hl7132.len_le
 have hs7130:Enc.circle.rd w7124 ((b7081 :: [])++O) cs7129 kX:=hs7130
 have hl7116:=hl7116.mv m7126
 have hd7094:=hd7094.mv m7126
 have hd7096:=hd7096.mv m7126
 have bx7092:=bx7092.keep k7127 (by simp)
 refine AA (AG (vT #[vA cs7129.toArray,x7131,vI ((AS kC kL ([(4:UInt8)])).2.2)]) rfl (AA (AK (vA cs7129.toArray) rfl rfl (AA (AK (x7131) rfl rfl (AA (AK (vI ((AS kC kL ([(4:UInt8)])).2.2)) rfl rfl (AA (CU [vI 0,vI 0,vI 0,nS,nS] KY rfl s7125 fun b7133 w7134 e7139 s7135 m7136 k7137 bx7138=>(?_))))))))))
 have ne7140:FJ b7081 b7133:=by show b7081≠b7133;have:=bx7092.lt;omega
 clear e7139
 have hl7116:=hl7116.mv m7136
 have hd7094:=hd7094.mv m7136
 have hd7096:=hd7096.mv m7136
 have hs7130:Enc.circle.rd w7134 ((b7133 :: (b7081 :: []))++O) cs7129 (kX):=Enc.mv Enc.circle (x:=kX) hs7130 m7136
 have hl7132:=hl7132.mv m7136
 have bx7092:=bx7092.keep k7137 (by simp)
 obtain ⟨d7146,d7148,rfl,hd7147,hd7149⟩:=hs7130
 have:=hd7147.len_le
 have:=hd7149.len_le
 refine BW (BC (vs:=[vI kX.epoch,vI kX.threshold,vI kX.wait,d7146,d7148]) (.agg #[vI kX.epoch,vI kX.threshold,vI kX.wait,d7146,d7148]) rfl rfl rfl BJ (fun u hu=>by simp only [List.mem_cons,List.not_mem_nil,or_false] at hu;rcases hu with rfl|rfl|rfl|rfl|rfl <;> first|rfl|exact hd7147.oneCell|exact hd7149.oneCell) (by repeat (constructor)) bx7138 oT s7135 fun w7141 s7142 m7143 k7144 bx7145=>(?_))
 have hl7116:=hl7116.mv m7143
 have hd7094:=hd7094.mv m7143
 have hd7096:=hd7096.mv m7143
 have hl7132:=hl7132.mv m7143
 have hd7147:=hd7147.mv m7143
 have hd7149:=hd7149.mv m7143
 have bx7092:=bx7092.keep k7144 (AY ne7140)
 refine AA (AD (x7131) rfl (AA (AD (vI ((AS kC kL ([(4:UInt8)])).2.2)) rfl (AF (AC (?_))))))
 refine AE (?_)
 refine AB kR (AA (BM (vs:=[vI kC.epoch,vI kC.threshold,vI kC.wait,d7093,d7095]) U28_ rfl BJ rfl bx7092 rfl (AA (AZ (vs:=[vA #[vI kC.epoch,vI kC.threshold,vI kC.wait,d7093,d7095],vI 1]) enter_34 (c_ask (O:=(b7133 :: (b7081 :: []))++O) [vI kC.epoch,vI kC.threshold,vI kC.wait,d7093,d7095] kC (1:Int) w7141 ⟨_,_,rfl,hd7094,hd7096⟩ s7142.lt) rfl s7142 fun v7150 w7151 s7152 m7153 k7154 r7155=>(?_)))))
 obtain ⟨cs7156,rfl,hs7157⟩:=r7155
 have hs7157:Enc.circle.rd w7151 ((b7133 :: (b7081 :: []))++O) cs7156 kA:=hs7157
 have hl7116:=hl7116.mv m7153
 have hl7132:=hl7132.mv m7153
 have hd7147:=hd7147.mv m7153
 have hd7149:=hd7149.mv m7153
 have bx7092:=bx7092.keep k7154 (by simp)
 have bx7145:=bx7145.keep k7154 (by simp)
 refine AA (AG (vT #[vA cs7156.toArray,vI ((BP kC (1:Int)).2.1),vI ((BP kC (1:Int)).2.2)]) rfl (AA (AK (vA cs7156.toArray) rfl rfl (AA (AK (vI ((BP kC (1:Int)).2.1)) rfl rfl (AA (AK (vI ((BP kC (1:Int)).2.2)) rfl rfl (?_))))))))
 obtain ⟨d7163,d7165,rfl,hd7164,hd7166⟩:=hs7157
 have:=hd7164.len_le
 have:=hd7166.len_le
 refine BW (BC (vs:=[vI kA.epoch,vI kA.threshold,vI kA.wait,d7163,d7165]) (.agg #[vI kA.epoch,vI kA.threshold,vI kA.wait,d7163,d7165]) rfl rfl rfl BJ (fun u hu=>by simp only [List.mem_cons,List.not_mem_nil,or_false] at hu;rcases hu with rfl|rfl|rfl|rfl|rfl <;> first|rfl|exact hd7164.oneCell|exact hd7166.oneCell) (by repeat (constructor)) bx7092 oT s7152 fun w7158 s7159 m7160 k7161 bx7162=>(?_))
 have hl7116:=hl7116.mv m7160
 have hl7132:=hl7132.mv m7160
 have hd7147:=hd7147.mv m7160
 have hd7149:=hd7149.mv m7160
 have hd7164:=hd7164.mv m7160
 have hd7166:=hd7166.mv m7160
 have bx7145:=bx7145.keep k7161 (AY (Ne.symm ne7140))
 refine AA (AD (vI ((BP kC (1:Int)).2.1)) rfl (AA (AD (vI ((BP kC (1:Int)).2.2)) rfl (AF (AC (?_))))))
 refine AE (?_)
 refine AB kR (AA (BM (vs:=[vI kA.epoch,vI kA.threshold,vI kA.wait,d7163,d7165]) U28_ rfl BJ rfl bx7162 rfl (AA (AG (vI ((BP kC (1:Int)).2.1)) rfl (AA (AG (x7115) rfl (AA (AZ (vs:=[vA #[vI kA.epoch,vI kA.threshold,vI kA.wait,d7163,d7165],vI ((BP kC (1:Int)).2.1),x7115]) MN (RV (O:=(b7133 :: (b7081 :: []))++O) [vI kA.epoch,vI kA.threshold,vI kA.wait,d7163,d7165] kA ((BP kC (1:Int)).2.1) x7115 kL w7158 ⟨_,_,rfl,hd7164,hd7166⟩ hl7116 s7159.lt) rfl s7159 fun v7167 w7168 s7169 m7170 k7171 r7172=>(?_)))))))))
 obtain ⟨x7173,rfl,hl7174⟩:=r7172
 have:=hl7174.len_le
 have hl7116:=hl7116.mv m7170
 have hl7132:=hl7132.mv m7170
 have hd7147:=hd7147.mv m7170
 have hd7149:=hd7149.mv m7170
 have hd7164:=hd7164.mv m7170
 have hd7166:=hd7166.mv m7170
 have bx7162:=bx7162.keep k7171 (by simp)
 have bx7145:=bx7145.keep k7171 (by simp)
 refine AA (AG (vT #[x7173,vI ((BE kA ((BP kC (1:Int)).2.1) kL).2)]) rfl (AA (AK (x7173) rfl rfl (AA (AK (vI ((BE kA ((BP kC (1:Int)).2.1) kL).2)) rfl rfl (AA (AD (x7173) rfl (AA (AD (vI ((BE kA ((BP kC (1:Int)).2.1) kL).2)) rfl (AF (AC (?_))))))))))))
 refine AE (?_)
 refine AB kR (AA (BM (vs:=[vI kA.epoch,vI kA.threshold,vI kA.wait,d7163,d7165]) U28_ rfl BJ rfl bx7162 rfl (AA (AG (vI ((BP kC (1:Int)).2.1)) rfl (AA (AZ (vs:=[vA #[vI kA.epoch,vI kA.threshold,vI kA.wait,d7163,d7165],vI ((BP kC (1:Int)).2.1),vI 3]) enter_35 (UH (O:=(b7133 :: (b7081 :: []))++O) [vI kA.epoch,vI kA.threshold,vI kA.wait,d7163,d7165] kA ((BP kC (1:Int)).2.1) (3:Int) w7168 ⟨_,_,rfl,hd7164,hd7166⟩ s7169.lt) rfl s7169 fun v7175 w7176 s7177 m7178 k7179 r7180=>(?_)))))))
 obtain ⟨cs7181,rfl,hs7182⟩:=r7180
 have hs7182:Enc.circle.rd w7176 ((b7133 :: (b7081 :: []))++O) cs7181 MD:=hs7182
 have hl7116:=hl7116.mv m7178
 have hl7132:=hl7132.mv m7178
 have hd7147:=hd7147.mv m7178
 have hd7149:=hd7149.mv m7178
 have bx7162:=bx7162.keep k7179 (by simp)
 have bx7145:=bx7145.keep k7179 (by simp)
 refine AA (AG (vT #[vA cs7181.toArray,vI ((CH kA ((BP kC (1:Int)).2.1) (BK kA (3:Int))).2)]) rfl (AA (AK (vA cs7181.toArray) rfl rfl (AA (AK (vI ((CH kA ((BP kC (1:Int)).2.1) (BK kA (3:Int))).2)) rfl rfl (?_))))))
 obtain ⟨d7188,d7190,rfl,hd7189,hd7191⟩:=hs7182
 have:=hd7189.len_le
 have:=hd7191.len_le
 refine BW (BC (vs:=[vI MD.epoch,vI MD.threshold,vI MD.wait,d7188,d7190]) (.agg #[vI MD.epoch,vI MD.threshold,vI MD.wait,d7188,d7190]) rfl rfl rfl BJ (fun u hu=>by simp only [List.mem_cons,List.not_mem_nil,or_false] at hu;rcases hu with rfl|rfl|rfl|rfl|rfl <;> first|rfl|exact hd7189.oneCell|exact hd7191.oneCell) (by repeat (constructor)) bx7162 oT s7177 fun w7183 s7184 m7185 k7186 bx7187=>(?_))
 have hl7116:=hl7116.mv m7185
 have hl7132:=hl7132.mv m7185
 have hd7147:=hd7147.mv m7185
 have hd7149:=hd7149.mv m7185
 have hd7189:=hd7189.mv m7185
 have hd7191:=hd7191.mv m7185
 have bx7145:=bx7145.keep k7186 (AY (Ne.symm ne7140))
 refine AA (AD (vI ((CH kA ((BP kC (1:Int)).2.1) (BK kA (3:Int))).2)) rfl (AF (AC (?_))))
 refine AE (?_)
 refine AB kR (AA (BM (vs:=[vI MD.epoch,vI MD.threshold,vI MD.wait,d7188,d7190]) U28_ rfl BJ rfl bx7187 rfl (AA (AG (vI ((BP kC (1:Int)).2.1)) rfl (AA (AZ (vs:=[vA #[vI MD.epoch,vI MD.threshold,vI MD.wait,d7188,d7190],vI ((BP kC (1:Int)).2.1),vI 8]) enter_35 (UH (O:=(b7133 :: (b7081 :: []))++O) [vI MD.epoch,vI MD.threshold,vI MD.wait,d7188,d7190] MD ((BP kC (1:Int)).2.1) (8:Int) w7183 ⟨_,_,rfl,hd7189,hd7191⟩ s7184.lt) rfl s7184 fun v7192 w7193 s7194 m7195 k7196 r7197=>(?_)))))))
 obtain ⟨cs7198,rfl,hs7199⟩:=r7197
 have hs7199:Enc.circle.rd w7193 ((b7133 :: (b7081 :: []))++O) cs7198 MC:=hs7199
 have hl7116:=hl7116.mv m7195
 have hl7132:=hl7132.mv m7195
 have hd7147:=hd7147.mv m7195
 have hd7149:=hd7149.mv m7195
 have bx7187:=bx7187.keep k7196 (by simp)
 have bx7145:=bx7145.keep k7196 (by simp)
 refine AA (AG (vT #[vA cs7198.toArray,vI ((CH MD ((BP kC (1:Int)).2.1) (BK MD (8:Int))).2)]) rfl (AA (AK (vA cs7198.toArray) rfl rfl (AA (AK (vI ((CH MD ((BP kC (1:Int)).2.1) (BK MD (8:Int))).2)) rfl rfl (?_))))))
 obtain ⟨d7205,d7207,rfl,hd7206,hd7208⟩:=hs7199
 have:=hd7206.len_le
 have:=hd7208.len_le
 refine BW (BC (vs:=[vI MC.epoch,vI MC.threshold,vI MC.wait,d7205,d7207]) (.agg #[vI MC.epoch,vI MC.threshold,vI MC.wait,d7205,d7207]) rfl rfl rfl BJ (fun u hu=>by simp only [List.mem_cons,List.not_mem_nil,or_false] at hu;rcases hu with rfl|rfl|rfl|rfl|rfl <;> first|rfl|exact hd7206.oneCell|exact hd7208.oneCell) (by repeat (constructor)) bx7187 oT s7194 fun w7200 s7201 m7202 k7203 bx7204=>(?_))
 have hl7116:=hl7116.mv m7202
 have hl7132:=hl7132.mv m7202
 have hd7147:=hd7147.mv m7202
 have hd7149:=hd7149.mv m7202
 have hd7206:=hd7206.mv m7202
 have hd7208:=hd7208.mv m7202
 have bx7145:=bx7145.keep k7203 (AY (Ne.symm ne7140))
 refine AA (AD (vI ((CH MD ((BP kC (1:Int)).2.1) (BK MD (8:Int))).2)) rfl (AF (AC (?_))))
 refine AE (?_)
 refine AB kR (AA (BM (vs:=[vI MC.epoch,vI MC.threshold,vI MC.wait,d7205,d7207]) U28_ rfl BJ rfl bx7204 rfl (AA (AG (vI ((BP kC (1:Int)).2.1)) rfl (AA (AZ (vs:=[vA #[vI MC.epoch,vI MC.threshold,vI MC.wait,d7205,d7207],vI ((BP kC (1:Int)).2.1),vI 1]) enter_38 (c_finish (O:=(b7133 :: (b7081 :: []))++O) [vI MC.epoch,vI MC.threshold,vI MC.wait,d7205,d7207] MC ((BP kC (1:Int)).2.1) (1:Int) w7200 ⟨_,_,rfl,hd7206,hd7208⟩ s7201.lt) rfl s7201 fun v7209 w7210 s7211 m7212 k7213 r7214=>(?_)))))))
 obtain ⟨cs7215,rfl,hs7216⟩:=r7214
 have hs7216:Enc.circle.rd w7210 ((b7133 :: (b7081 :: []))++O) cs7215 CQ:=hs7216
 have hl7116:=hl7116.mv m7212
 have hl7132:=hl7132.mv m7212
 have hd7147:=hd7147.mv m7212
 have hd7149:=hd7149.mv m7212
 have bx7204:=bx7204.keep k7213 (by simp)
 have bx7145:=bx7145.keep k7213 (by simp)
 refine AA (AG (vT #[vA cs7215.toArray,vI ((CH MC ((BP kC (1:Int)).2.1) (BY MC (1:Int))).2)]) rfl (AA (AK (vA cs7215.toArray) rfl rfl (AA (AK (vI ((CH MC ((BP kC (1:Int)).2.1) (BY MC (1:Int))).2)) rfl rfl (?_))))))
 obtain ⟨d7222,d7224,rfl,hd7223,hd7225⟩:=hs7216
 have:=hd7223.len_le
 have:=hd7225.len_le
 refine BW (BC (vs:=[vI CQ.epoch,vI CQ.threshold,vI CQ.wait,d7222,d7224]) (.agg #[vI CQ.epoch,vI CQ.threshold,vI CQ.wait,d7222,d7224]) rfl rfl rfl BJ (fun u hu=>by simp only [List.mem_cons,List.not_mem_nil,or_false] at hu;rcases hu with rfl|rfl|rfl|rfl|rfl <;> first|rfl|exact hd7223.oneCell|exact hd7225.oneCell) (by repeat (constructor)) bx7204 oT s7211 fun w7217 s7218 m7219 k7220 bx7221=>(?_))
 have hl7116:=hl7116.mv m7219
 have hl7132:=hl7132.mv m7219
 have hd7147:=hd7147.mv m7219
 have hd7149:=hd7149.mv m7219
 have hd7223:=hd7223.mv m7219
 have hd7225:=hd7225.mv m7219
 have bx7145:=bx7145.keep k7220 (AY (Ne.symm ne7140))
 refine AA (AD (vI ((CH MC ((BP kC (1:Int)).2.1) (BY MC (1:Int))).2)) rfl (AF (AC (?_))))
 refine AE (?_)
 refine AE (?_)
 refine AB kR (AA (AG (vI ((JZ ([(3:Int),(5:Int),(8:Int)]) (2:Int) (0:Int)).2)) rfl (AA (CP .i64 ((JZ ([(3:Int),(5:Int),(8:Int)]) (2:Int) (0:Int)).2) (0:Int) rfl rfl (AA (AG (vO (((JZ ([(3:Int),(5:Int),(8:Int)]) (2:Int) (0:Int)).2) != (0:Int))) rfl (?_)))))))
 have hb7226:(((JZ ([(3:Int),(5:Int),(8:Int)]) (2:Int) (0:Int)).2) != (0:Int))=false:=(by decide +kernel)
 rw [hb7226]
 refine AX rfl (AG (vI ((CV kC ([(7:UInt8)]) ([(9:UInt8)])).2)) rfl (AX rfl (CP .i64 ((CV kC ([(7:UInt8)]) ([(9:UInt8)])).2) (0:Int) rfl rfl (AA (BU (vO (((CV kC ([(7:UInt8)]) ([(9:UInt8)])).2) != (0:Int))) rfl rfl (AA (AG (vO (((CV kC ([(7:UInt8)]) ([(9:UInt8)])).2) != (0:Int))) rfl (?_))))))))
 have hb7227:(((CV kC ([(7:UInt8)]) ([(9:UInt8)])).2) != (0:Int))=false:=(by decide +kernel)
 rw [hb7227]
 refine AX rfl (AG (vI ((AS kC kL ([(4:UInt8)])).2.2)) rfl (AX rfl (CP .i64 ((AS kC kL ([(4:UInt8)])).2.2) (0:Int) rfl rfl (AA (BU (vO (((AS kC kL ([(4:UInt8)])).2.2) != (0:Int))) rfl rfl (AA (AG (vO (((AS kC kL ([(4:UInt8)])).2.2) != (0:Int))) rfl (?_))))))))
 have hb7228:(((AS kC kL ([(4:UInt8)])).2.2) != (0:Int))=false:=(by decide +kernel)
 rw [hb7228]
 refine AX rfl (AG (vI ((BP kC (1:Int)).2.2)) rfl (AX rfl (CP .i64 ((BP kC (1:Int)).2.2) (0:Int) rfl rfl (AA (BU (vO (((BP kC (1:Int)).2.2) != (0:Int))) rfl rfl (AA (AG (vO (((BP kC (1:Int)).2.2) != (0:Int))) rfl (?_))))))))
 have hb7229:(((BP kC (1:Int)).2.2) != (0:Int))=false:=(by decide +kernel)
 rw [hb7229]
 refine AX rfl (AG (vI ((CH kA ((BP kC (1:Int)).2.1) (BK kA (3:Int))).2)) rfl (AX rfl (CP .i64 ((CH kA ((BP kC (1:Int)).2.1) (BK kA (3:Int))).2) (0:Int) rfl rfl (AA (BU (vO (((CH kA ((BP kC (1:Int)).2.1) (BK kA (3:Int))).2) != (0:Int))) rfl rfl (AA (AG (vO (((CH kA ((BP kC (1:Int)).2.1) (BK kA (3:Int))).2) != (0:Int))) rfl (?_))))))))
 have hb7230:(((CH kA ((BP kC (1:Int)).2.1) (BK kA (3:Int))).2) != (0:Int))=false:=(by decide +kernel)
 rw [hb7230]
 refine AX rfl (AG (vI ((CH MD ((BP kC (1:Int)).2.1) (BK MD (8:Int))).2)) rfl (AX rfl (CP .i64 ((CH MD ((BP kC (1:Int)).2.1) (BK MD (8:Int))).2) (0:Int) rfl rfl (AA (BU (vO (((CH MD ((BP kC (1:Int)).2.1) (BK MD (8:Int))).2) != (0:Int))) rfl rfl (AA (AG (vO (((CH MD ((BP kC (1:Int)).2.1) (BK MD (8:Int))).2) != (0:Int))) rfl (?_))))))))
 have hb7231:(((CH MD ((BP kC (1:Int)).2.1) (BK MD (8:Int))).2) != (0:Int))=false:=(by decide +kernel)
 rw [hb7231]
 refine AX rfl (AG (vI ((CH MC ((BP kC (1:Int)).2.1) (BY MC (1:Int))).2)) rfl (AX rfl (CP .i64 ((CH MC ((BP kC (1:Int)).2.1) (BY MC (1:Int))).2) (0:Int) rfl rfl (AA (BU (vO (((CH MC ((BP kC (1:Int)).2.1) (BY MC (1:Int))).2) != (0:Int))) rfl rfl (AA (AG (vO (((CH MC ((BP kC (1:Int)).2.1) (BY MC (1:Int))).2) != (0:Int))) rfl (?_))))))))
 have hb7232:(((CH MC ((BP kC (1:Int)).2.1) (BY MC (1:Int))).2) != (0:Int))=false:=(by decide +kernel)
 rw [hb7232]
 refine AX rfl (AG (x7115) rfl (AX rfl (CC U32_ rfl hl7116 (AX rfl (CP .i64 (kL.length:Int) (3:Int) rfl rfl (AA (BU (vO ((kL.length:Int) != (3:Int))) rfl rfl (AA (AG (vO ((kL.length:Int) != (3:Int))) rfl (?_))))))))))
 have hb7233:((kL.length:Int) != (3:Int))=false:=(by decide +kernel)
 rw [hb7233]
 refine AX rfl (AG (x7131) rfl (AX rfl (CC U32_ rfl hl7132 (AX rfl (CP .i64 (((AS kC kL ([(4:UInt8)])).2.1).length:Int) (3:Int) rfl rfl (AA (BU (vO ((((AS kC kL ([(4:UInt8)])).2.1).length:Int) != (3:Int))) rfl rfl (AF (AC (?_))))))))))
 have hb7234:((((AS kC kL ([(4:UInt8)])).2.1).length:Int) != (3:Int))=false:=(by decide +kernel)
 rw [hb7234]
 refine AJ false rfl rfl (fun h=>by cases h) (fun _=>?_)
 refine AR (AC (?_))
 refine AE (?_)
 refine cw_draw' 9 _ _ [CZ (vA #[vI CQ.epoch,vI CQ.threshold,vI CQ.wait,d7222,d7224]),CZ (vI ((BP kC (1:Int)).2.1)),fun (vT:Value) (wT:World)=>BB Enc.share wT ((b7133 :: (b7081 :: []))++O) vT (kL),fun (vT:Value) (wT:World)=>BB Enc.share wT ((b7133 :: (b7081 :: []))++O) vT ((kL.drop 1)),fun (vT:Value) (wT:World)=>∃ (xT0:Value),vT = .tuple #[xT0,vI ((BE CQ ((BP kC (1:Int)).2.1) (kL.drop 1)).2)]∧BB Enc.u8 wT ((b7133 :: (b7081 :: []))++O) xT0 ((BE CQ ((BP kC (1:Int)).2.1) (kL.drop 1)).1),fun (vT:Value) (wT:World)=>∃ (xT0:Value),vT = .tuple #[xT0,vI ((BE CQ ((BP kC (1:Int)).2.1) (kL.drop 1)).2)]∧BB Enc.u8 wT ((b7133 :: (b7081 :: []))++O) xT0 ((BE CQ ((BP kC (1:Int)).2.1) (kL.drop 1)).1),fun (vT:Value) (wT:World)=>BB Enc.u8 wT ((b7133 :: (b7081 :: []))++O) vT ((BE CQ ((BP kC (1:Int)).2.1) (kL.drop 1)).1),CZ (vI ((BE CQ ((BP kC (1:Int)).2.1) (kL.drop 1)).2)),fun (vT:Value) (wT:World)=>BB Enc.u8 wT ((b7133 :: (b7081 :: []))++O) vT ((BE CQ ((BP kC (1:Int)).2.1) (kL.drop 1)).1)] kR kR kR kR rfl rfl ⟨kI,kI,fun _ _ _ h k=>h.mv (Mv.of_keep k),fun _ _ _ h k=>h.mv (Mv.of_keep k),fun _ _ _ ⟨y0,e,h0⟩ k=>⟨y0,e,h0.mv (Mv.of_keep k)⟩,fun _ _ _ ⟨y0,e,h0⟩ k=>⟨y0,e,h0.mv (Mv.of_keep k)⟩,fun _ _ _ h k=>h.mv (Mv.of_keep k),kI,fun _ _ _ h k=>h.mv (Mv.of_keep k),trivial⟩ ⟨?_,?_,?_,?_,?_,?_,?_,?_,?_,trivial⟩ ?_
 ·intro F1 w1 k1 hf hd
  have k0:=(Keep.drew [] w7217).trans k1
  have bx7221:=bx7221.keep k0 (by simp)
  obtain ⟨F2,rfl⟩:=AI (F:=F1) [(1,vP (some ⟨b7081,0,none⟩))] ⟨hf 1 kR,trivial⟩
  exact AH rfl ((BM (vs:=[vI CQ.epoch,vI CQ.threshold,vI CQ.wait,d7222,d7224]) U28_ rfl BJ rfl bx7221 rfl (⟨(Keep.refl _ _),rfl⟩)))
 ·intro F1 w1 k1 hf hd
  obtain ⟨F2,rfl⟩:=AI (F:=F1) [(8,vI ((BP kC (1:Int)).2.1))] ⟨hf 8 kR,trivial⟩
  exact AH rfl ((AG (vI ((BP kC (1:Int)).2.1)) rfl (⟨(Keep.refl _ _),rfl⟩)))
 ·intro F1 w1 k1 hf hd
  have k0:=(Keep.drew [] w7217).trans k1
  have m1:Mv (b7133 :: (b7081 :: [])) w7217 (b7133 :: (b7081 :: [])) w1:=Mv.of_keep k0
  have hl7116:=hl7116.mv m1
  obtain ⟨F2,rfl⟩:=AI (F:=F1) [(3,x7115)] ⟨hf 3 kR,trivial⟩
  exact AH rfl ((AG (x7115) rfl (⟨(Keep.refl _ _),hl7116⟩)))
 ·intro F1 w1 k1 hf hd
  obtain ⟨v7235,e7237,hl7236⟩:∃ v,F1 123=v∧BB Enc.share w1 ((b7133 :: (b7081 :: []))++O) v (kL):=⟨_,rfl,hd 2 123 kR⟩
  have:=hl7236.len_le
  obtain ⟨F2,rfl⟩:=AI (F:=F1) [(123,v7235)] ⟨e7237,trivial⟩
  refine AH rfl ((MB U32_ DL 1 kL.length rfl (.inr ⟨.const (vI 1), .i64,(1:Int),rfl,rfl,rfl⟩) (.inl ⟨rfl,rfl⟩) (by decide +kernel) (by decide +kernel) hl7236 fun v7238 hl7239=>(?_)))
  rw [List.take_length] at hl7239
  exact ⟨(Keep.refl _ _),hl7239⟩
 ·intro F1 w1 k1 hf hd
  have k0:=(Keep.drew [] w7217).trans k1
  have s1:=s7218.call k0
  have m1:Mv (b7133 :: (b7081 :: [])) w7217 (b7133 :: (b7081 :: [])) w1:=Mv.of_keep k0
  have hd7223:=hd7223.mv m1
  have hd7225:=hd7225.mv m1
  obtain ⟨v7240,e7242,hl7241⟩:∃ v,F1 124=v∧BB Enc.share w1 ((b7133 :: (b7081 :: []))++O) v ((kL.drop 1)):=⟨_,rfl,hd 3 124 kR⟩
  have:=hl7241.len_le
  obtain ⟨F2,rfl⟩:=AI (F:=F1) [(121,vA #[vI CQ.epoch,vI CQ.threshold,vI CQ.wait,d7222,d7224]),(122,vI ((BP kC (1:Int)).2.1)),(124,v7240)] ⟨hd 0 121 kR,hd 1 122 kR,e7242,trivial⟩
  refine AH rfl ((AZ (vs:=[vA #[vI CQ.epoch,vI CQ.threshold,vI CQ.wait,d7222,d7224],vI ((BP kC (1:Int)).2.1),v7240]) MN (RV (O:=(b7133 :: (b7081 :: []))++O) [vI CQ.epoch,vI CQ.threshold,vI CQ.wait,d7222,d7224] CQ ((BP kC (1:Int)).2.1) v7240 (kL.drop 1) w1 ⟨_,_,rfl,hd7223,hd7225⟩ hl7241 s1.lt) rfl s1 fun v7243 w7244 s7245 m7246 k7247 r7248=>(?_)))
  obtain ⟨x7249,rfl,hl7250⟩:=r7248
  have:=hl7250.len_le
  exact ⟨k7247,⟨x7249,rfl,hl7250⟩⟩
 ·intro F1 w1 k1 hf hd
  obtain ⟨x7251,e7253,hl7252⟩:(fun (vT:Value) (wT:World)=>∃ (xT0:Value),vT = .tuple #[xT0,vI ((BE CQ ((BP kC (1:Int)).2.1) (kL.drop 1)).2)]∧BB Enc.u8 wT ((b7133 :: (b7081 :: []))++O) xT0 ((BE CQ ((BP kC (1:Int)).2.1) (kL.drop 1)).1)) (F1 125) w1:=hd 4 125 kR
  have:=hl7252.len_le
  obtain ⟨F2,rfl⟩:=AI (F:=F1) [(125,vT #[x7251,vI ((BE CQ ((BP kC (1:Int)).2.1) (kL.drop 1)).2)])] ⟨e7253,trivial⟩
  exact AH rfl ((AG (vT #[x7251,vI ((BE CQ ((BP kC (1:Int)).2.1) (kL.drop 1)).2)]) rfl (⟨(Keep.refl _ _),⟨x7251,rfl,hl7252⟩⟩)))
 ·intro F1 w1 k1 hf hd
  obtain ⟨x7254,e7256,hl7255⟩:(fun (vT:Value) (wT:World)=>∃ (xT0:Value),vT = .tuple #[xT0,vI ((BE CQ ((BP kC (1:Int)).2.1) (kL.drop 1)).2)]∧BB Enc.u8 wT ((b7133 :: (b7081 :: []))++O) xT0 ((BE CQ ((BP kC (1:Int)).2.1) (kL.drop 1)).1)) (F1 120) w1:=hd 5 120 kR
  have:=hl7255.len_le
  obtain ⟨F2,rfl⟩:=AI (F:=F1) [(120,vT #[x7254,vI ((BE CQ ((BP kC (1:Int)).2.1) (kL.drop 1)).2)])] ⟨e7256,trivial⟩
  exact AH rfl ((AK (x7254) rfl rfl (⟨(Keep.refl _ _),hl7255⟩)))
 ·intro F1 w1 k1 hf hd
  obtain ⟨x7257,e7259,hl7258⟩:(fun (vT:Value) (wT:World)=>∃ (xT0:Value),vT = .tuple #[xT0,vI ((BE CQ ((BP kC (1:Int)).2.1) (kL.drop 1)).2)]∧BB Enc.u8 wT ((b7133 :: (b7081 :: []))++O) xT0 ((BE CQ ((BP kC (1:Int)).2.1) (kL.drop 1)).1)) (F1 120) w1:=hd 5 120 kR
  have:=hl7258.len_le
  obtain ⟨F2,rfl⟩:=AI (F:=F1) [(120,vT #[x7257,vI ((BE CQ ((BP kC (1:Int)).2.1) (kL.drop 1)).2)])] ⟨e7259,trivial⟩
  exact AH rfl ((AK (vI ((BE CQ ((BP kC (1:Int)).2.1) (kL.drop 1)).2)) rfl rfl (⟨(Keep.refl _ _),rfl⟩)))
 ·intro F1 w1 k1 hf hd
  obtain ⟨v7260,e7262,hl7261⟩:∃ v,F1 126=v∧BB Enc.u8 w1 ((b7133 :: (b7081 :: []))++O) v ((BE CQ ((BP kC (1:Int)).2.1) (kL.drop 1)).1):=⟨_,rfl,hd 6 126 kR⟩
  have:=hl7261.len_le
  obtain ⟨F2,rfl⟩:=AI (F:=F1) [(126,v7260)] ⟨e7262,trivial⟩
  exact AH rfl ((AD (v7260) rfl (⟨(Keep.refl _ _),hl7261⟩)))
 intro F7264 w7265 k7263 hT7266 hF7267
 have s7268:=s7218.call k7263
 have m7269:Mv (b7133 :: (b7081 :: [])) w7217 (b7133 :: (b7081 :: [])) w7265:=Mv.of_keep k7263
 have hl7116:=hl7116.mv m7269
 have hl7132:=hl7132.mv m7269
 have hd7147:=hd7147.mv m7269
 have hd7149:=hd7149.mv m7269
 have hd7223:=hd7223.mv m7269
 have hd7225:=hd7225.mv m7269
 have bx7221:=bx7221.keep k7263 (by simp)
 have bx7145:=bx7145.keep k7263 (by simp)
 obtain ⟨v7272,e7274,hl7273⟩:∃ v,F7264 15=v∧BB Enc.u8 w7265 ((b7133 :: (b7081 :: []))++O) v ((BE CQ ((BP kC (1:Int)).2.1) (kL.drop 1)).1):=⟨_,rfl,hT7266 8 15 kR (by decide)⟩
 have:=hl7273.len_le
 obtain ⟨F2,rfl⟩:=AI (F:=F7264) [(1,vP (some ⟨b7081,0,none⟩)),(3,x7115),(5,vP (some ⟨b7133,0,none⟩)),(6,x7131),(8,vI ((BP kC (1:Int)).2.1)),(11,vI ((BE kA ((BP kC (1:Int)).2.1) kL).2)),(252,undef),(15,v7272),(127,vI ((BE CQ ((BP kC (1:Int)).2.1) (kL.drop 1)).2))] ⟨hF7267 1 kR,hF7267 3 kR,hF7267 5 kR,hF7267 6 kR,hF7267 8 kR,hF7267 11 kR,hF7267 252 kR,e7274,hT7266 7 127 kR (by decide),trivial⟩
 clear hT7266 hF7267
 refine AA (AD (vI ((BE CQ ((BP kC (1:Int)).2.1) (kL.drop 1)).2)) rfl (AF (AC (?_))))
 refine AE (?_)
 refine cw_draw' 9 _ _ [CZ (vA #[vI CQ.epoch,vI CQ.threshold,vI CQ.wait,d7222,d7224]),CZ (vI ((BP kC (1:Int)).2.1)),fun (vT:Value) (wT:World)=>BB Enc.share wT ((b7133 :: (b7081 :: []))++O) vT ((AS kC kL ([(4:UInt8)])).2.1),fun (vT:Value) (wT:World)=>BB Enc.share wT ((b7133 :: (b7081 :: []))++O) vT ((((AS kC kL ([(4:UInt8)])).2.1).drop 1)),fun (vT:Value) (wT:World)=>∃ (xT0:Value),vT = .tuple #[xT0,vI ((BE CQ ((BP kC (1:Int)).2.1) (((AS kC kL ([(4:UInt8)])).2.1).drop 1)).2)]∧BB Enc.u8 wT ((b7133 :: (b7081 :: []))++O) xT0 ((BE CQ ((BP kC (1:Int)).2.1) (((AS kC kL ([(4:UInt8)])).2.1).drop 1)).1),fun (vT:Value) (wT:World)=>∃ (xT0:Value),vT = .tuple #[xT0,vI ((BE CQ ((BP kC (1:Int)).2.1) (((AS kC kL ([(4:UInt8)])).2.1).drop 1)).2)]∧BB Enc.u8 wT ((b7133 :: (b7081 :: []))++O) xT0 ((BE CQ ((BP kC (1:Int)).2.1) (((AS kC kL ([(4:UInt8)])).2.1).drop 1)).1),fun (vT:Value) (wT:World)=>BB Enc.u8 wT ((b7133 :: (b7081 :: []))++O) vT ((BE CQ ((BP kC (1:Int)).2.1) (((AS kC kL ([(4:UInt8)])).2.1).drop 1)).1),CZ (vI ((BE CQ ((BP kC (1:Int)).2.1) (((AS kC kL ([(4:UInt8)])).2.1).drop 1)).2)),fun (vT:Value) (wT:World)=>BB Enc.u8 wT ((b7133 :: (b7081 :: []))++O) vT ((BE CQ ((BP kC (1:Int)).2.1) (((AS kC kL ([(4:UInt8)])).2.1).drop 1)).1)] kR kR kR kR rfl rfl ⟨kI,kI,fun _ _ _ h k=>h.mv (Mv.of_keep k),fun _ _ _ h k=>h.mv (Mv.of_keep k),fun _ _ _ ⟨y0,e,h0⟩ k=>⟨y0,e,h0.mv (Mv.of_keep k)⟩,fun _ _ _ ⟨y0,e,h0⟩ k=>⟨y0,e,h0.mv (Mv.of_keep k)⟩,fun _ _ _ h k=>h.mv (Mv.of_keep k),kI,fun _ _ _ h k=>h.mv (Mv.of_keep k),trivial⟩ ⟨?_,?_,?_,?_,?_,?_,?_,?_,?_,trivial⟩ ?_
 ·intro F1 w1 k1 hf hd
  have k0:=(Keep.drew [] w7265).trans k1
  have bx7221:=bx7221.keep k0 (by simp)
  obtain ⟨F2,rfl⟩:=AI (F:=F1) [(1,vP (some ⟨b7081,0,none⟩))] ⟨hf 1 kR,trivial⟩
  exact AH rfl ((BM (vs:=[vI CQ.epoch,vI CQ.threshold,vI CQ.wait,d7222,d7224]) U28_ rfl BJ rfl bx7221 rfl (⟨(Keep.refl _ _),rfl⟩)))
 ·intro F1 w1 k1 hf hd
  obtain ⟨F2,rfl⟩:=AI (F:=F1) [(8,vI ((BP kC (1:Int)).2.1))] ⟨hf 8 kR,trivial⟩
  exact AH rfl ((AG (vI ((BP kC (1:Int)).2.1)) rfl (⟨(Keep.refl _ _),rfl⟩)))
 ·intro F1 w1 k1 hf hd
  have k0:=(Keep.drew [] w7265).trans k1
  have m1:Mv (b7133 :: (b7081 :: [])) w7265 (b7133 :: (b7081 :: [])) w1:=Mv.of_keep k0
  have hl7132:=hl7132.mv m1
  obtain ⟨F2,rfl⟩:=AI (F:=F1) [(6,x7131)] ⟨hf 6 kR,trivial⟩
  exact AH rfl ((AG (x7131) rfl (⟨(Keep.refl _ _),hl7132⟩)))
 ·intro F1 w1 k1 hf hd
  obtain ⟨v7275,e7277,hl7276⟩:∃ v,F1 131=v∧BB Enc.share w1 ((b7133 :: (b7081 :: []))++O) v ((AS kC kL ([(4:UInt8)])).2.1):=⟨_,rfl,hd 2 131 kR⟩
  have:=hl7276.len_le
  obtain ⟨F2,rfl⟩:=AI (F:=F1) [(131,v7275)] ⟨e7277,trivial⟩
  refine AH rfl ((MB U32_ DL 1 (((AS kC kL ([(4:UInt8)])).2.1).length) rfl (.inr ⟨.const (vI 1), .i64,(1:Int),rfl,rfl,rfl⟩) (.inl ⟨rfl,rfl⟩) (by decide +kernel) (by decide +kernel) hl7276 fun v7278 hl7279=>(?_)))
  rw [List.take_length] at hl7279
  exact ⟨(Keep.refl _ _),hl7279⟩
 ·intro F1 w1 k1 hf hd
  have k0:=(Keep.drew [] w7265).trans k1
  have s1:=s7268.call k0
  have m1:Mv (b7133 :: (b7081 :: [])) w7265 (b7133 :: (b7081 :: [])) w1:=Mv.of_keep k0
  have hd7223:=hd7223.mv m1
  have hd7225:=hd7225.mv m1
  obtain ⟨v7280,e7282,hl7281⟩:∃ v,F1 132=v∧BB Enc.share w1 ((b7133 :: (b7081 :: []))++O) v ((((AS kC kL ([(4:UInt8)])).2.1).drop 1)):=⟨_,rfl,hd 3 132 kR⟩
  have:=hl7281.len_le
  obtain ⟨F2,rfl⟩:=AI (F:=F1) [(129,vA #[vI CQ.epoch,vI CQ.threshold,vI CQ.wait,d7222,d7224]),(130,vI ((BP kC (1:Int)).2.1)),(132,v7280)] ⟨hd 0 129 kR,hd 1 130 kR,e7282,trivial⟩
  refine AH rfl ((AZ (vs:=[vA #[vI CQ.epoch,vI CQ.threshold,vI CQ.wait,d7222,d7224],vI ((BP kC (1:Int)).2.1),v7280]) MN (RV (O:=(b7133 :: (b7081 :: []))++O) [vI CQ.epoch,vI CQ.threshold,vI CQ.wait,d7222,d7224] CQ ((BP kC (1:Int)).2.1) v7280 (((AS kC kL ([(4:UInt8)])).2.1).drop 1) w1 ⟨_,_,rfl,hd7223,hd7225⟩ hl7281 s1.lt) rfl s1 fun v7283 w7284 s7285 m7286 k7287 r7288=>(?_)))
  obtain ⟨x7289,rfl,hl7290⟩:=r7288
  have:=hl7290.len_le
  exact ⟨k7287,⟨x7289,rfl,hl7290⟩⟩
 ·intro F1 w1 k1 hf hd
  obtain ⟨x7291,e7293,hl7292⟩:(fun (vT:Value) (wT:World)=>∃ (xT0:Value),vT = .tuple #[xT0,vI ((BE CQ ((BP kC (1:Int)).2.1) (((AS kC kL ([(4:UInt8)])).2.1).drop 1)).2)]∧BB Enc.u8 wT ((b7133 :: (b7081 :: []))++O) xT0 ((BE CQ ((BP kC (1:Int)).2.1) (((AS kC kL ([(4:UInt8)])).2.1).drop 1)).1)) (F1 133) w1:=hd 4 133 kR
  have:=hl7292.len_le
  obtain ⟨F2,rfl⟩:=AI (F:=F1) [(133,vT #[x7291,vI ((BE CQ ((BP kC (1:Int)).2.1) (((AS kC kL ([(4:UInt8)])).2.1).drop 1)).2)])] ⟨e7293,trivial⟩
  exact AH rfl ((AG (vT #[x7291,vI ((BE CQ ((BP kC (1:Int)).2.1) (((AS kC kL ([(4:UInt8)])).2.1).drop 1)).2)]) rfl (⟨(Keep.refl _ _),⟨x7291,rfl,hl7292⟩⟩)))
 ·intro F1 w1 k1 hf hd
  obtain ⟨x7294,e7296,hl7295⟩:(fun (vT:Value) (wT:World)=>∃ (xT0:Value),vT = .tuple #[xT0,vI ((BE CQ ((BP kC (1:Int)).2.1) (((AS kC kL ([(4:UInt8)])).2.1).drop 1)).2)]∧BB Enc.u8 wT ((b7133 :: (b7081 :: []))++O) xT0 ((BE CQ ((BP kC (1:Int)).2.1) (((AS kC kL ([(4:UInt8)])).2.1).drop 1)).1)) (F1 128) w1:=hd 5 128 kR
  have:=hl7295.len_le
  obtain ⟨F2,rfl⟩:=AI (F:=F1) [(128,vT #[x7294,vI ((BE CQ ((BP kC (1:Int)).2.1) (((AS kC kL ([(4:UInt8)])).2.1).drop 1)).2)])] ⟨e7296,trivial⟩
  exact AH rfl ((AK (x7294) rfl rfl (⟨(Keep.refl _ _),hl7295⟩)))
 ·intro F1 w1 k1 hf hd
  obtain ⟨x7297,e7299,hl7298⟩:(fun (vT:Value) (wT:World)=>∃ (xT0:Value),vT = .tuple #[xT0,vI ((BE CQ ((BP kC (1:Int)).2.1) (((AS kC kL ([(4:UInt8)])).2.1).drop 1)).2)]∧BB Enc.u8 wT ((b7133 :: (b7081 :: []))++O) xT0 ((BE CQ ((BP kC (1:Int)).2.1) (((AS kC kL ([(4:UInt8)])).2.1).drop 1)).1)) (F1 128) w1:=hd 5 128 kR
  have:=hl7298.len_le
  obtain ⟨F2,rfl⟩:=AI (F:=F1) [(128,vT #[x7297,vI ((BE CQ ((BP kC (1:Int)).2.1) (((AS kC kL ([(4:UInt8)])).2.1).drop 1)).2)])] ⟨e7299,trivial⟩
  exact AH rfl ((AK (vI ((BE CQ ((BP kC (1:Int)).2.1) (((AS kC kL ([(4:UInt8)])).2.1).drop 1)).2)) rfl rfl (⟨(Keep.refl _ _),rfl⟩)))
 ·intro F1 w1 k1 hf hd
  obtain ⟨v7300,e7302,hl7301⟩:∃ v,F1 134=v∧BB Enc.u8 w1 ((b7133 :: (b7081 :: []))++O) v ((BE CQ ((BP kC (1:Int)).2.1) (((AS kC kL ([(4:UInt8)])).2.1).drop 1)).1):=⟨_,rfl,hd 6 134 kR⟩
  have:=hl7301.len_le
  obtain ⟨F2,rfl⟩:=AI (F:=F1) [(134,v7300)] ⟨e7302,trivial⟩
  exact AH rfl ((AD (v7300) rfl (⟨(Keep.refl _ _),hl7301⟩)))
 intro F7304 w7305 k7303 hT7306 hF7307
 have s7308:=s7268.call k7303
 have m7309:Mv (b7133 :: (b7081 :: [])) w7265 (b7133 :: (b7081 :: [])) w7305:=Mv.of_keep k7303
 have hl7116:=hl7116.mv m7309
 have hl7132:=hl7132.mv m7309
 have hl7273:=hl7273.mv m7309
 have hd7223:=hd7223.mv m7309
 have hd7225:=hd7225.mv m7309
 have bx7221:=bx7221.keep k7303 (by simp)
 have hd7147:=hd7147.mv m7309
 have hd7149:=hd7149.mv m7309
 have bx7145:=bx7145.keep k7303 (by simp)
 obtain ⟨F2,rfl⟩:=AI (F:=F7304) [(1,vP (some ⟨b7081,0,none⟩)),(3,x7115),(5,vP (some ⟨b7133,0,none⟩)),(6,x7131),(11,vI ((BE kA ((BP kC (1:Int)).2.1) kL).2)),(15,v7272),(16,vI ((BE CQ ((BP kC (1:Int)).2.1) (kL.drop 1)).2)),(252,undef),(135,vI ((BE CQ ((BP kC (1:Int)).2.1) (((AS kC kL ([(4:UInt8)])).2.1).drop 1)).2))] ⟨hF7307 1 kR,hF7307 3 kR,hF7307 5 kR,hF7307 6 kR,hF7307 11 kR,hF7307 15 kR,hF7307 16 kR,hF7307 252 kR,hT7306 7 135 kR (by decide),trivial⟩
 clear hT7306 hF7307
 refine AA (AD (vI ((BE CQ ((BP kC (1:Int)).2.1) (((AS kC kL ([(4:UInt8)])).2.1).drop 1)).2)) rfl (AF (AC (?_))))
 refine cw_cut (fun FI wI=>∃ (bnc146_19:Nat) (vnc146_19_3:Value) (vnc146_19_4:Value) (vrc146_20:Value) (B:List Nat),True∧(∃ F1,FI=GP F1 [(1,vP (some ⟨b7081,0,none⟩)),(3,x7115),(5,vP (some ⟨b7133,0,none⟩)),(6,x7131),(11,vI ((BE kA ((BP kC (1:Int)).2.1) kL).2)),(15,v7272),(16,vI ((BE CQ ((BP kC (1:Int)).2.1) (kL.drop 1)).2)),(18,vI ((BE CQ ((BP kC (1:Int)).2.1) (((AS kC kL ([(4:UInt8)])).2.1).drop 1)).2)),(19,vP (some ⟨bnc146_19,0,none⟩)),(20,vrc146_20),(21,vI kE),(252,undef)])∧St w O wI B∧BB Enc.share wI (B++O) vrc146_20 (kW)∧BB Enc.share wI (B++O) (x7115) (kL)∧BB Enc.share wI (B++O) (x7131) ((AS kC kL ([(4:UInt8)])).2.1)∧BB Enc.u8 wI (B++O) (v7272) ((BE CQ ((BP kC (1:Int)).2.1) (kL.drop 1)).1)∧BB Enc.int wI (B++O) (d7222) (CQ.guardians)∧BB Enc.recovery wI (B++O) (d7224) (CQ.recs)∧GO wI b7081 28 [vI CQ.epoch,vI CQ.threshold,vI CQ.wait,d7222,d7224]∧b7081∈B∧BB Enc.int wI (B++O) (d7146) (kX.guardians)∧BB Enc.recovery wI (B++O) (d7148) (kX.recs)∧GO wI b7133 28 [vI kX.epoch,vI kX.threshold,vI kX.wait,d7146,d7148]∧b7133∈B∧GO wI bnc146_19 28 [vI kZ.epoch,vI kZ.threshold,vI kZ.wait,vnc146_19_3,vnc146_19_4]∧BB Enc.int wI (B++O) vnc146_19_3 (kZ.guardians)∧BB Enc.recovery wI (B++O) vnc146_19_4 (kZ.recs)∧bnc146_19∈B∧FJ b7081 bnc146_19∧FJ b7133 bnc146_19) ?_ ?_
 ·refine cw_drawUN 10 [7,8] [[7],[8],[7,8]] (by intro c F d v w hd;simp only [OS,NU];exact qp_end c F d v w hd) _ _ _ [fun _=>CZ (vA #[vI CQ.epoch,vI CQ.threshold,vI CQ.wait,d7222,d7224]),fun _=>fun (vT:Value) (_:World)=>BB Enc.share w7305 ((b7133 :: (b7081 :: []))++O) vT (kL),fun _=>fun (vT:Value) (_:World)=>BB Enc.share w7305 ((b7133 :: (b7081 :: []))++O) vT ((kL.take 2)),fun (BT:List Nat) (vT:Value) (wT:World)=>BB Enc.int wT (BT++O) vT ([(4:Int)]),fun (BT:List Nat) (vT:Value) (wT:World)=>∃ (xT0:List Value) (xT1:Value),vT = .tuple #[.agg xT0.toArray,xT1,vI ((AP CQ (kL.take 2) ([(4:Int)]) (1:Int) ([])).2.2)]∧Enc.circle.rd wT (BT++O) xT0 (kZ)∧BB Enc.share wT (BT++O) xT1 ((AP CQ (kL.take 2) ([(4:Int)]) (1:Int) ([])).2.1),fun (BT:List Nat) (vT:Value) (wT:World)=>∃ (xT0:List Value) (xT1:Value),vT = .tuple #[.agg xT0.toArray,xT1,vI ((AP CQ (kL.take 2) ([(4:Int)]) (1:Int) ([])).2.2)]∧Enc.circle.rd wT (BT++O) xT0 (kZ)∧BB Enc.share wT (BT++O) xT1 ((AP CQ (kL.take 2) ([(4:Int)]) (1:Int) ([])).2.1),fun (BT:List Nat) (vT:Value) (wT:World)=>∃ csT:List Value,vT = .agg csT.toArray∧Enc.circle.rd wT (BT++O) csT (kZ),fun (BT:List Nat) (vT:Value) (wT:World)=>BB Enc.share wT (BT++O) vT ((AP CQ (kL.take 2) ([(4:Int)]) (1:Int) ([])).2.1),fun _=>CZ (vI ((AP CQ (kL.take 2) ([(4:Int)]) (1:Int) ([])).2.2)),QQ w7305 28 [vI 0,vI 0,vI 0,nS,nS]] [⟨0,[],[],[],false,[]⟩,⟨0,[],[],[],false,[]⟩,⟨0,[],[],[],false,[1]⟩,⟨1,[],[],[],false,[]⟩,⟨1,[1],[],[],false,[0,2,3]⟩,⟨1,[1],[],[],false,[4]⟩,⟨1,[1],[],[],false,[5]⟩,⟨1,[1],[],[],false,[5]⟩,⟨0,[1],[],[],false,[5]⟩,⟨2,[],[],[],false,[]⟩] (b7133 :: (b7081 :: [])) kR kR kR kR kR (by decide) rfl rfl rfl ⟨fun _ _ _ _ _ h=>h,fun _ _ _ _ _ h=>h,fun _ _ _ _ _ h=>h,(show ∀ B B2 v w w2,(fun (BT:List Nat) (vT:Value) (wT:World)=>BB Enc.int wT (BT++O) vT ([(4:Int)])) B v w→Mv B w B2 w2→(fun (BT:List Nat) (vT:Value) (wT:World)=>BB Enc.int wT (BT++O) vT ([(4:Int)])) B2 v w2 from fun _ _ _ _ _ h m=>h.mv m),(show ∀ B B2 v w w2,(fun (BT:List Nat) (vT:Value) (wT:World)=>∃ (xT0:List Value) (xT1:Value),vT = .tuple #[.agg xT0.toArray,xT1,vI ((AP CQ (kL.take 2) ([(4:Int)]) (1:Int) ([])).2.2)]∧Enc.circle.rd wT (BT++O) xT0 (kZ)∧BB Enc.share wT (BT++O) xT1 ((AP CQ (kL.take 2) ([(4:Int)]) (1:Int) ([])).2.1)) B v w→Mv B w B2 w2→(fun (BT:List Nat) (vT:Value) (wT:World)=>∃ (xT0:List Value) (xT1:Value),vT = .tuple #[.agg xT0.toArray,xT1,vI ((AP CQ (kL.take 2) ([(4:Int)]) (1:Int) ([])).2.2)]∧Enc.circle.rd wT (BT++O) xT0 (kZ)∧BB Enc.share wT (BT++O) xT1 ((AP CQ (kL.take 2) ([(4:Int)]) (1:Int) ([])).2.1)) B2 v w2 from fun _ _ _ _ _ ⟨y0,y1,e,h0,h1⟩ m=>⟨y0,y1,e,Enc.mv _ h0 m,h1.mv m⟩),(show ∀ B B2 v w w2,(fun (BT:List Nat) (vT:Value) (wT:World)=>∃ (xT0:List Value) (xT1:Value),vT = .tuple #[.agg xT0.toArray,xT1,vI ((AP CQ (kL.take 2) ([(4:Int)]) (1:Int) ([])).2.2)]∧Enc.circle.rd wT (BT++O) xT0 (kZ)∧BB Enc.share wT (BT++O) xT1 ((AP CQ (kL.take 2) ([(4:Int)]) (1:Int) ([])).2.1)) B v w→Mv B w B2 w2→(fun (BT:List Nat) (vT:Value) (wT:World)=>∃ (xT0:List Value) (xT1:Value),vT = .tuple #[.agg xT0.toArray,xT1,vI ((AP CQ (kL.take 2) ([(4:Int)]) (1:Int) ([])).2.2)]∧Enc.circle.rd wT (BT++O) xT0 (kZ)∧BB Enc.share wT (BT++O) xT1 ((AP CQ (kL.take 2) ([(4:Int)]) (1:Int) ([])).2.1)) B2 v w2 from fun _ _ _ _ _ ⟨y0,y1,e,h0,h1⟩ m=>⟨y0,y1,e,Enc.mv _ h0 m,h1.mv m⟩),(show ∀ B B2 v w w2,(fun (BT:List Nat) (vT:Value) (wT:World)=>∃ csT:List Value,vT = .agg csT.toArray∧Enc.circle.rd wT (BT++O) csT (kZ)) B v w→Mv B w B2 w2→(fun (BT:List Nat) (vT:Value) (wT:World)=>∃ csT:List Value,vT = .agg csT.toArray∧Enc.circle.rd wT (BT++O) csT (kZ)) B2 v w2 from fun _ _ _ _ _ ⟨a,e,h⟩ m=>⟨a,e,Enc.mv _ h m⟩),(show ∀ B B2 v w w2,(fun (BT:List Nat) (vT:Value) (wT:World)=>BB Enc.share wT (BT++O) vT ((AP CQ (kL.take 2) ([(4:Int)]) (1:Int) ([])).2.1)) B v w→Mv B w B2 w2→(fun (BT:List Nat) (vT:Value) (wT:World)=>BB Enc.share wT (BT++O) vT ((AP CQ (kL.take 2) ([(4:Int)]) (1:Int) ([])).2.1)) B2 v w2 from fun _ _ _ _ _ h m=>h.mv m),fun _ _ _ _ _ h=>h,QQ.st,trivial⟩ ⟨?_,?_,?_,?_,?_,?_,?_,?_,?_,?_,trivial⟩ ?_ ?_
  ·intro F1 w1 B1_ Bs_ k1 hs_ hl_ hr_ hsep_ hf hd
   have k0:=(Keep.drew [] w7305).trans k1
   have bx7221:=bx7221.keep k0 (by simp)
   obtain ⟨F2,rfl⟩:=AI (F:=F1) [(1,vP (some ⟨b7081,0,none⟩))] ⟨hf 1 kR,trivial⟩
   exact AH rfl ((BM (vs:=[vI CQ.epoch,vI CQ.threshold,vI CQ.wait,d7222,d7224]) U28_ rfl BJ rfl bx7221 rfl (⟨[],(Keep.refl _ _),MY,rfl⟩)))
  ·intro F1 w1 B1_ Bs_ k1 hs_ hl_ hr_ hsep_ hf hd
   obtain ⟨F2,rfl⟩:=AI (F:=F1) [(3,x7115)] ⟨hf 3 kR,trivial⟩
   exact AH rfl ((AG (x7115) rfl (⟨[],(Keep.refl _ _),MY,hl7116⟩)))
  ·intro F1 w1 B1_ Bs_ k1 hs_ hl_ hr_ hsep_ hf hd
   obtain ⟨v7312,e7314,hl7313⟩:∃ v,F1 138=v∧BB Enc.share w7305 ((b7133 :: (b7081 :: []))++O) v (kL):=⟨_,rfl,hd 1 138 kR kR⟩
   have:=hl7313.len_le
   obtain ⟨F2,rfl⟩:=AI (F:=F1) [(138,v7312)] ⟨e7314,trivial⟩
   refine AH rfl ((o_sliceRU U32_ DL 0 2 rfl (.inl ⟨rfl,rfl⟩) (.inr ⟨.const (vI 2), .i64,(2:Int),rfl,rfl,rfl⟩) (by decide +kernel) (by decide +kernel) hl7313 fun v7315 hl7316=>(?_)))
   rw [List.drop_zero] at hl7316
   exact ⟨[],(Keep.refl _ _),MY,hl7316⟩
  ·intro F1 w1 B1_ Bs_ k1 hs_ hl_ hr_ hsep_ hf hd
   have k0:=(Keep.drew [] w7305).trans k1
   have s1:=s7308.adoptL k0 hl_
   obtain ⟨F2,rfl⟩:=AI (F:=F1) [] trivial
   refine AH rfl ((IV (E:=Enc.int) (xs:=[.const (vI 4)]) U22_ MU z_3 (by decide) [vI 4] [[vI 4]] [(4:Int)] rfl rfl rfl (Parts.cons rfl rfl (Parts.nil _ _ _)) oT s1 fun v7321 w7317 s7318 m7319 k7320 hl7322=>(?_)))
   have:=hl7322.len_le
   exact ⟨[],k7320,MY,hl7322⟩
  ·intro F1 w1 B1_ Bs_ k1 hs_ hl_ hr_ hsep_ hf hd
   have k0:=(Keep.drew [] w7305).trans k1
   have s1:=s7308.adoptL k0 hl_
   have m1:Mv (b7133 :: (b7081 :: [])) w7305 B1_ w1:=Mv.adoptL k0 hl_
   have hd7223:=hd7223.mv m1
   have hd7225:=hd7225.mv m1
   obtain ⟨v7323,e7325,hl7324⟩:∃ v,F1 139=v∧BB Enc.share w7305 ((b7133 :: (b7081 :: []))++O) v ((kL.take 2)):=⟨_,rfl,hd 2 139 kR kR⟩
   have:=hl7324.len_le
   have hl7324:=hl7324.mv m1
   obtain ⟨v7326,e7328,hl7327⟩:∃ v,F1 140=v∧BB Enc.int w1 ((Bs_ 1)++O) v ([(4:Int)]):=⟨_,rfl,hd 3 140 kR kR⟩
   have:=hl7327.len_le
   have hl7327:=hl7327.mv (Mv.at_ (hr_ 1 kR))
   obtain ⟨F2,rfl⟩:=AI (F:=F1) [(137,vA #[vI CQ.epoch,vI CQ.threshold,vI CQ.wait,d7222,d7224]),(139,v7323),(140,v7326)] ⟨hd 0 137 kR kR,e7325,e7328,trivial⟩
   refine AH rfl ((AZ (vs:=[vA #[vI CQ.epoch,vI CQ.threshold,vI CQ.wait,d7222,d7224],v7323,v7326,vI 1,nS]) enter_28 (c_replace (O:=B1_++O) [vI CQ.epoch,vI CQ.threshold,vI CQ.wait,d7222,d7224] CQ v7323 (kL.take 2) v7326 ([(4:Int)]) (1:Int) (.slice none 0 0) [] w1 ⟨_,_,rfl,hd7223,hd7225⟩ hl7324 hl7327 (BB.nil _ _ _) (by decide +kernel) s1.lt) rfl s1 fun v7329 w7330 s7331 m7332 k7333 r7334=>(?_)))
   obtain ⟨cs7335,x7337,rfl,hs7336,hl7338⟩:=r7334
   have:=hl7338.len_le
   have hs7336:Enc.circle.rd w7330 (B1_++O) cs7335 kZ:=hs7336
   exact ⟨[],k7333,MY,⟨cs7335,x7337,rfl,hs7336,hl7338⟩⟩
  ·intro F1 w1 B1_ Bs_ k1 hs_ hl_ hr_ hsep_ hf hd
   obtain ⟨cs7339,x7341,e7343,hs7340,hl7342⟩:(fun (vT:Value) (wT:World)=>∃ (xT0:List Value) (xT1:Value),vT = .tuple #[.agg xT0.toArray,xT1,vI ((AP CQ (kL.take 2) ([(4:Int)]) (1:Int) ([])).2.2)]∧Enc.circle.rd wT ((Bs_ 1)++O) xT0 (kZ)∧BB Enc.share wT ((Bs_ 1)++O) xT1 ((AP CQ (kL.take 2) ([(4:Int)]) (1:Int) ([])).2.1)) (F1 141) w1:=hd 4 141 kR kR
   have:=hl7342.len_le
   have hs7340:Enc.circle.rd w1 (B1_++O) cs7339 (kZ):=Enc.mv Enc.circle (x:=kZ) hs7340 (Mv.at_ (hr_ 1 kR))
   have hl7342:=hl7342.mv (Mv.at_ (hr_ 1 kR))
   obtain ⟨F2,rfl⟩:=AI (F:=F1) [(141,vT #[vA cs7339.toArray,x7341,vI ((AP CQ (kL.take 2) ([(4:Int)]) (1:Int) ([])).2.2)])] ⟨e7343,trivial⟩
   exact AH rfl ((AG (vT #[vA cs7339.toArray,x7341,vI ((AP CQ (kL.take 2) ([(4:Int)]) (1:Int) ([])).2.2)]) rfl (⟨[],(Keep.refl _ _),MY,⟨cs7339,x7341,rfl,hs7340,hl7342⟩⟩)))
  ·intro F1 w1 B1_ Bs_ k1 hs_ hl_ hr_ hsep_ hf hd
   obtain ⟨cs7344,x7346,e7348,hs7345,hl7347⟩:(fun (vT:Value) (wT:World)=>∃ (xT0:List Value) (xT1:Value),vT = .tuple #[.agg xT0.toArray,xT1,vI ((AP CQ (kL.take 2) ([(4:Int)]) (1:Int) ([])).2.2)]∧Enc.circle.rd wT ((Bs_ 1)++O) xT0 (kZ)∧BB Enc.share wT ((Bs_ 1)++O) xT1 ((AP CQ (kL.take 2) ([(4:Int)]) (1:Int) ([])).2.1)) (F1 136) w1:=hd 5 136 kR kR
   have:=hl7347.len_le
   have hs7345:Enc.circle.rd w1 (B1_++O) cs7344 (kZ):=Enc.mv Enc.circle (x:=kZ) hs7345 (Mv.at_ (hr_ 1 kR))
   obtain ⟨F2,rfl⟩:=AI (F:=F1) [(136,vT #[vA cs7344.toArray,x7346,vI ((AP CQ (kL.take 2) ([(4:Int)]) (1:Int) ([])).2.2)])] ⟨e7348,trivial⟩
   exact AH rfl ((AK (vA cs7344.toArray) rfl rfl (⟨[],(Keep.refl _ _),MY,⟨cs7344,rfl,hs7345⟩⟩)))
  ·intro F1 w1 B1_ Bs_ k1 hs_ hl_ hr_ hsep_ hf hd
   obtain ⟨cs7349,x7351,e7353,hs7350,hl7352⟩:(fun (vT:Value) (wT:World)=>∃ (xT0:List Value) (xT1:Value),vT = .tuple #[.agg xT0.toArray,xT1,vI ((AP CQ (kL.take 2) ([(4:Int)]) (1:Int) ([])).2.2)]∧Enc.circle.rd wT ((Bs_ 1)++O) xT0 (kZ)∧BB Enc.share wT ((Bs_ 1)++O) xT1 ((AP CQ (kL.take 2) ([(4:Int)]) (1:Int) ([])).2.1)) (F1 136) w1:=hd 5 136 kR kR
   have:=hl7352.len_le
   have hl7352:=hl7352.mv (Mv.at_ (hr_ 1 kR))
   obtain ⟨F2,rfl⟩:=AI (F:=F1) [(136,vT #[vA cs7349.toArray,x7351,vI ((AP CQ (kL.take 2) ([(4:Int)]) (1:Int) ([])).2.2)])] ⟨e7353,trivial⟩
   exact AH rfl ((AK (x7351) rfl rfl (⟨[],(Keep.refl _ _),MY,hl7352⟩)))
  ·intro F1 w1 B1_ Bs_ k1 hs_ hl_ hr_ hsep_ hf hd
   obtain ⟨cs7354,x7356,e7358,hs7355,hl7357⟩:(fun (vT:Value) (wT:World)=>∃ (xT0:List Value) (xT1:Value),vT = .tuple #[.agg xT0.toArray,xT1,vI ((AP CQ (kL.take 2) ([(4:Int)]) (1:Int) ([])).2.2)]∧Enc.circle.rd wT ((Bs_ 1)++O) xT0 (kZ)∧BB Enc.share wT ((Bs_ 1)++O) xT1 ((AP CQ (kL.take 2) ([(4:Int)]) (1:Int) ([])).2.1)) (F1 136) w1:=hd 5 136 kR kR
   have:=hl7357.len_le
   obtain ⟨F2,rfl⟩:=AI (F:=F1) [(136,vT #[vA cs7354.toArray,x7356,vI ((AP CQ (kL.take 2) ([(4:Int)]) (1:Int) ([])).2.2)])] ⟨e7358,trivial⟩
   exact AH rfl ((AK (vI ((AP CQ (kL.take 2) ([(4:Int)]) (1:Int) ([])).2.2)) rfl rfl (⟨[],(Keep.refl _ _),MY,rfl⟩)))
  ·intro F1 w1 B1_ Bs_ k1 hs_ hl_ hr_ hsep_ hf hd
   have k0:=(Keep.drew [] w7305).trans k1
   have s1:=s7308.adoptL k0 hl_
   obtain ⟨F2,rfl⟩:=AI (F:=F1) [] trivial
   refine AH rfl ((CU [vI 0,vI 0,vI 0,nS,nS] KY rfl s1 fun b7359 w7360 e7365 s7361 m7362 k7363 bx7364=>(?_)))
   have lo7366:w7305.heap.size≤b7359:=by have:=k0.size;omega
   exact ⟨[],k7363,MY,⟨_,rfl,lo7366,(by intro h;have:=lt_of s1 _ h;omega),bx7364⟩⟩
  ·intro F7368 w7369 Bs7374 k7367 hB7375 hl7376 sep7377 hT7370 hF7371
   obtain ⟨b7378,e7382,lo7379,hn7380,bx7383⟩:(QQ w7305 28 [vI 0,vI 0,vI 0,nS,nS]) (Bs7374 2) (F7368 19) w7369:=hT7370 9 19 kR (by decide) kR kR
   have hi7381:=bx7383.lt
   have hl7384:∀ x∈(b7133 :: (b7081 :: [])),x∈(b7133 :: (b7081 :: []))∨(w7305.heap.size≤x∧x<w7369.heap.size):=fun x hx=>.inl hx
   have hsu7385:∀ x∈(b7133 :: (b7081 :: [])),x∈(b7133 :: (b7081 :: [])):=fun x hx=>hx
   have hq7386:∀ x∈(b7133 :: (b7081 :: [])),x∈Bs7374 1:=fun x hx=>hB7375 1 x hx
   have hq7387:∀ x∈(b7133 :: (b7081 :: [])),x∈Bs7374 2:=fun x hx=>hB7375 2 x hx
   have hl7388:∀ x∈(b7378 :: (b7133 :: (b7081 :: []))),x∈(b7133 :: (b7081 :: []))∨(w7305.heap.size≤x∧x<w7369.heap.size):=fun x hx=>by rcases List.mem_cons.1 hx with rfl|hx;exact .inr ⟨lo7379,hi7381⟩;exact hl7384 x hx
   have hsu7389:∀ x∈(b7133 :: (b7081 :: [])),x∈(b7378 :: (b7133 :: (b7081 :: []))):=fun x hx=>List.mem_cons_of_mem _ (hsu7385 x hx)
   have hq7390:∀ x∈(b7378 :: (b7133 :: (b7081 :: []))),x∈Bs7374 1:=fun x hx=>by rcases List.mem_cons.1 hx with rfl|hx;exact sep7377 2 1 _ (by decide) lo7379 hi7381 hn7380;exact hq7386 x hx
   have s7372:=s7308.adoptL k7367 hl7388
   have m7373:Mv (b7133 :: (b7081 :: [])) w7305 (b7378 :: (b7133 :: (b7081 :: []))) w7369:=Mv.adoptL k7367 hl7388
   have ne7391:FJ b7081 b7378:=by show b7081≠b7378;have:=bx7221.lt;omega
   have ne7392:FJ b7133 b7378:=by show b7133≠b7378;have:=bx7145.lt;omega
   obtain ⟨cs7393,e7395,hs7394⟩:∃ cs:List Value,F7368 142 = .agg cs.toArray∧Enc.circle.rd w7369 ((Bs7374 1)++O) cs (kZ):=hT7370 6 142 kR (by decide) kR kR
   have hs7394:Enc.circle.rd w7369 ((b7378 :: (b7133 :: (b7081 :: [])))++O) cs7393 (kZ):=Enc.mv Enc.circle (x:=kZ) hs7394 (Mv.at_ hq7390)
   obtain ⟨v7396,e7398,hl7397⟩:∃ v,F7368 143=v∧BB Enc.share w7369 ((Bs7374 1)++O) v ((AP CQ (kL.take 2) ([(4:Int)]) (1:Int) ([])).2.1):=⟨_,rfl,hT7370 7 143 kR (by decide) kR kR⟩
   have:=hl7397.len_le
   have hl7397:=hl7397.mv (Mv.at_ hq7390)
   have hl7116:=hl7116.mv m7373
   have hl7132:=hl7132.mv m7373
   have hl7273:=hl7273.mv m7373
   have hd7223:=hd7223.mv m7373
   have hd7225:=hd7225.mv m7373
   have bx7221:=bx7221.keep k7367 (by simp)
   have hd7147:=hd7147.mv m7373
   have hd7149:=hd7149.mv m7373
   have bx7145:=bx7145.keep k7367 (by simp)
   obtain ⟨F2,rfl⟩:=AI (F:=F7368) [(1,vP (some ⟨b7081,0,none⟩)),(3,x7115),(5,vP (some ⟨b7133,0,none⟩)),(6,x7131),(11,vI ((BE kA ((BP kC (1:Int)).2.1) kL).2)),(15,v7272),(16,vI ((BE CQ ((BP kC (1:Int)).2.1) (kL.drop 1)).2)),(18,vI ((BE CQ ((BP kC (1:Int)).2.1) (((AS kC kL ([(4:UInt8)])).2.1).drop 1)).2)),(252,undef),(19,vP (some ⟨b7378,0,none⟩)),(142,vA cs7393.toArray),(143,v7396),(144,vI ((AP CQ (kL.take 2) ([(4:Int)]) (1:Int) ([])).2.2))] ⟨hF7371 1 kR,hF7371 3 kR,hF7371 5 kR,hF7371 6 kR,hF7371 11 kR,hF7371 15 kR,hF7371 16 kR,hF7371 18 kR,hF7371 252 kR,e7382,e7395,e7398,hT7370 8 144 kR (by decide) kR kR,trivial⟩
   clear hT7370 hF7371 hB7375 hl7376 sep7377
   obtain ⟨d7404,d7406,rfl,hd7405,hd7407⟩:=hs7394
   have:=hd7405.len_le
   have:=hd7407.len_le
   refine BW (BC (vs:=[vI kZ.epoch,vI kZ.threshold,vI kZ.wait,d7404,d7406]) (.agg #[vI kZ.epoch,vI kZ.threshold,vI kZ.wait,d7404,d7406]) rfl rfl rfl BJ (fun u hu=>by simp only [List.mem_cons,List.not_mem_nil,or_false] at hu;rcases hu with rfl|rfl|rfl|rfl|rfl <;> first|rfl|exact hd7405.oneCell|exact hd7407.oneCell) (by repeat (constructor)) bx7383 oT s7372 fun w7399 s7400 m7401 k7402 bx7403=>(?_))
   have hl7116:=hl7116.mv m7401
   have hl7132:=hl7132.mv m7401
   have hl7273:=hl7273.mv m7401
   have hd7405:=hd7405.mv m7401
   have hd7407:=hd7407.mv m7401
   have hl7397:=hl7397.mv m7401
   have hd7223:=hd7223.mv m7401
   have hd7225:=hd7225.mv m7401
   have bx7221:=bx7221.keep k7402 (AY ne7391)
   have hd7147:=hd7147.mv m7401
   have hd7149:=hd7149.mv m7401
   have bx7145:=bx7145.keep k7402 (AY ne7392)
   refine AA (AD (v7396) rfl (AA (AD (vI ((AP CQ (kL.take 2) ([(4:Int)]) (1:Int) ([])).2.2)) rfl (AF (AC (?_))))))
   exact ⟨b7378,d7404,d7406,v7396,(b7378 :: (b7133 :: (b7081 :: []))),trivial,⟨_,BD _ ⟨rfl,rfl,rfl,rfl,rfl,rfl,rfl,rfl,rfl,rfl,(by rfl),rfl,trivial⟩⟩,s7400,(by rw [show kW=(AP CQ (kL.take 2) ([(4:Int)]) (1:Int) ([])).2.1 from rfl];exact hl7397),hl7116,hl7132,hl7273,hd7223,hd7225,bx7221,(by (repeat (first|exact List.mem_cons_self|apply List.mem_cons_of_mem))),hd7147,hd7149,bx7145,(by (repeat (first|exact List.mem_cons_self|apply List.mem_cons_of_mem))),bx7403,hd7405,hd7407,(by repeat (constructor)),ne7391,ne7392⟩
  ·intro cx_ hcx_
   match cx_,hcx_ with
   | 0,_=>
    intro F7409 w7410 Bs7415 k7408 hB7416 hl7417 sep7418 hT7411 hF7412
    obtain ⟨b7419,e7423,lo7420,hn7421,bx7424⟩:(QQ w7305 28 [vI 0,vI 0,vI 0,nS,nS]) (Bs7415 2) (F7409 19) w7410:=hT7411 9 19 kR (by decide) kR kR
    have hi7422:=bx7424.lt
    have hl7425:∀ x∈(b7133 :: (b7081 :: [])),x∈(b7133 :: (b7081 :: []))∨(w7305.heap.size≤x∧x<w7410.heap.size):=fun x hx=>.inl hx
    have hsu7426:∀ x∈(b7133 :: (b7081 :: [])),x∈(b7133 :: (b7081 :: [])):=fun x hx=>hx
    have hq7427:∀ x∈(b7133 :: (b7081 :: [])),x∈Bs7415 1:=fun x hx=>hB7416 1 x hx
    have hq7428:∀ x∈(b7133 :: (b7081 :: [])),x∈Bs7415 2:=fun x hx=>hB7416 2 x hx
    have hl7429:∀ x∈(b7419 :: (b7133 :: (b7081 :: []))),x∈(b7133 :: (b7081 :: []))∨(w7305.heap.size≤x∧x<w7410.heap.size):=fun x hx=>by rcases List.mem_cons.1 hx with rfl|hx;exact .inr ⟨lo7420,hi7422⟩;exact hl7425 x hx
    have hsu7430:∀ x∈(b7133 :: (b7081 :: [])),x∈(b7419 :: (b7133 :: (b7081 :: []))):=fun x hx=>List.mem_cons_of_mem _ (hsu7426 x hx)
    have hq7431:∀ x∈(b7419 :: (b7133 :: (b7081 :: []))),x∈Bs7415 1:=fun x hx=>by rcases List.mem_cons.1 hx with rfl|hx;exact sep7418 2 1 _ (by decide) lo7420 hi7422 hn7421;exact hq7427 x hx
    have s7413:=s7308.adoptL k7408 hl7429
    have m7414:Mv (b7133 :: (b7081 :: [])) w7305 (b7419 :: (b7133 :: (b7081 :: []))) w7410:=Mv.adoptL k7408 hl7429
    have ne7432:FJ b7081 b7419:=by show b7081≠b7419;have:=bx7221.lt;omega
    have ne7433:FJ b7133 b7419:=by show b7133≠b7419;have:=bx7145.lt;omega
    obtain ⟨cs7434,x7436,e7438,hs7435,hl7437⟩:(fun (vT:Value) (wT:World)=>∃ (xT0:List Value) (xT1:Value),vT = .tuple #[.agg xT0.toArray,xT1,vI ((AP CQ (kL.take 2) ([(4:Int)]) (1:Int) ([])).2.2)]∧Enc.circle.rd wT ((Bs7415 1)++O) xT0 (kZ)∧BB Enc.share wT ((Bs7415 1)++O) xT1 ((AP CQ (kL.take 2) ([(4:Int)]) (1:Int) ([])).2.1)) (F7409 136) w7410:=hT7411 5 136 kR (by decide) kR kR
    have:=hl7437.len_le
    have hl7437:=hl7437.mv (Mv.at_ hq7431)
    obtain ⟨cs7439,e7441,hs7440⟩:∃ cs:List Value,F7409 142 = .agg cs.toArray∧Enc.circle.rd w7410 ((Bs7415 1)++O) cs (kZ):=hT7411 6 142 kR (by decide) kR kR
    have hs7440:Enc.circle.rd w7410 ((b7419 :: (b7133 :: (b7081 :: [])))++O) cs7439 (kZ):=Enc.mv Enc.circle (x:=kZ) hs7440 (Mv.at_ hq7431)
    have hl7116:=hl7116.mv m7414
    have hl7132:=hl7132.mv m7414
    have hl7273:=hl7273.mv m7414
    have hd7223:=hd7223.mv m7414
    have hd7225:=hd7225.mv m7414
    have bx7221:=bx7221.keep k7408 (by simp)
    have hd7147:=hd7147.mv m7414
    have hd7149:=hd7149.mv m7414
    have bx7145:=bx7145.keep k7408 (by simp)
    obtain ⟨F2,rfl⟩:=AI (F:=F7409) [(1,vP (some ⟨b7081,0,none⟩)),(3,x7115),(5,vP (some ⟨b7133,0,none⟩)),(6,x7131),(11,vI ((BE kA ((BP kC (1:Int)).2.1) kL).2)),(15,v7272),(16,vI ((BE CQ ((BP kC (1:Int)).2.1) (kL.drop 1)).2)),(18,vI ((BE CQ ((BP kC (1:Int)).2.1) (((AS kC kL ([(4:UInt8)])).2.1).drop 1)).2)),(252,undef),(19,vP (some ⟨b7419,0,none⟩)),(136,vT #[vA cs7434.toArray,x7436,vI ((AP CQ (kL.take 2) ([(4:Int)]) (1:Int) ([])).2.2)]),(142,vA cs7439.toArray),(144,vI ((AP CQ (kL.take 2) ([(4:Int)]) (1:Int) ([])).2.2))] ⟨hF7412 1 kR,hF7412 3 kR,hF7412 5 kR,hF7412 6 kR,hF7412 11 kR,hF7412 15 kR,hF7412 16 kR,hF7412 18 kR,hF7412 252 kR,e7423,e7438,e7441,hT7411 8 144 kR (by decide) kR kR,trivial⟩
    clear hT7411 hF7412 hB7416 hl7417 sep7418
    obtain ⟨d7447,d7449,rfl,hd7448,hd7450⟩:=hs7440
    have:=hd7448.len_le
    have:=hd7450.len_le
    refine BW (BC (vs:=[vI kZ.epoch,vI kZ.threshold,vI kZ.wait,d7447,d7449]) (.agg #[vI kZ.epoch,vI kZ.threshold,vI kZ.wait,d7447,d7449]) rfl rfl rfl BJ (fun u hu=>by simp only [List.mem_cons,List.not_mem_nil,or_false] at hu;rcases hu with rfl|rfl|rfl|rfl|rfl <;> first|rfl|exact hd7448.oneCell|exact hd7450.oneCell) (by repeat (constructor)) bx7424 oT s7413 fun w7442 s7443 m7444 k7445 bx7446=>(?_))
    have hl7116:=hl7116.mv m7444
    have hl7132:=hl7132.mv m7444
    have hl7273:=hl7273.mv m7444
    have hl7437:=hl7437.mv m7444
    have hd7448:=hd7448.mv m7444
    have hd7450:=hd7450.mv m7444
    have hd7223:=hd7223.mv m7444
    have hd7225:=hd7225.mv m7444
    have bx7221:=bx7221.keep k7445 (AY ne7432)
    have hd7147:=hd7147.mv m7444
    have hd7149:=hd7149.mv m7444
    have bx7145:=bx7145.keep k7445 (AY ne7433)
    refine AA (AK (x7436) rfl rfl (AA (AD (x7436) rfl (AA (AD (vI ((AP CQ (kL.take 2) ([(4:Int)]) (1:Int) ([])).2.2)) rfl (AF (AC (?_))))))))
    exact ⟨b7419,d7447,d7449,x7436,(b7419 :: (b7133 :: (b7081 :: []))),trivial,⟨_,BD _ ⟨rfl,rfl,rfl,rfl,rfl,rfl,rfl,rfl,rfl,rfl,(by rfl),rfl,trivial⟩⟩,s7443,(by rw [show kW=(AP CQ (kL.take 2) ([(4:Int)]) (1:Int) ([])).2.1 from rfl];exact hl7437),hl7116,hl7132,hl7273,hd7223,hd7225,bx7221,(by (repeat (first|exact List.mem_cons_self|apply List.mem_cons_of_mem))),hd7147,hd7149,bx7145,(by (repeat (first|exact List.mem_cons_self|apply List.mem_cons_of_mem))),bx7446,hd7448,hd7450,(by repeat (constructor)),ne7432,ne7433⟩
   | 1,_=>
    intro F7452 w7453 Bs7458 k7451 hB7459 hl7460 sep7461 hT7454 hF7455
    obtain ⟨b7462,e7466,lo7463,hn7464,bx7467⟩:(QQ w7305 28 [vI 0,vI 0,vI 0,nS,nS]) (Bs7458 2) (F7452 19) w7453:=hT7454 9 19 kR (by decide) kR kR
    have hi7465:=bx7467.lt
    have hl7468:∀ x∈(b7133 :: (b7081 :: [])),x∈(b7133 :: (b7081 :: []))∨(w7305.heap.size≤x∧x<w7453.heap.size):=fun x hx=>.inl hx
    have hsu7469:∀ x∈(b7133 :: (b7081 :: [])),x∈(b7133 :: (b7081 :: [])):=fun x hx=>hx
    have hq7470:∀ x∈(b7133 :: (b7081 :: [])),x∈Bs7458 1:=fun x hx=>hB7459 1 x hx
    have hq7471:∀ x∈(b7133 :: (b7081 :: [])),x∈Bs7458 2:=fun x hx=>hB7459 2 x hx
    have hl7472:∀ x∈(b7462 :: (b7133 :: (b7081 :: []))),x∈(b7133 :: (b7081 :: []))∨(w7305.heap.size≤x∧x<w7453.heap.size):=fun x hx=>by rcases List.mem_cons.1 hx with rfl|hx;exact .inr ⟨lo7463,hi7465⟩;exact hl7468 x hx
    have hsu7473:∀ x∈(b7133 :: (b7081 :: [])),x∈(b7462 :: (b7133 :: (b7081 :: []))):=fun x hx=>List.mem_cons_of_mem _ (hsu7469 x hx)
    have hq7474:∀ x∈(b7462 :: (b7133 :: (b7081 :: []))),x∈Bs7458 1:=fun x hx=>by rcases List.mem_cons.1 hx with rfl|hx;exact sep7461 2 1 _ (by decide) lo7463 hi7465 hn7464;exact hq7470 x hx
    have s7456:=s7308.adoptL k7451 hl7472
    have m7457:Mv (b7133 :: (b7081 :: [])) w7305 (b7462 :: (b7133 :: (b7081 :: []))) w7453:=Mv.adoptL k7451 hl7472
    have ne7475:FJ b7081 b7462:=by show b7081≠b7462;have:=bx7221.lt;omega
    have ne7476:FJ b7133 b7462:=by show b7133≠b7462;have:=bx7145.lt;omega
    obtain ⟨cs7477,x7479,e7481,hs7478,hl7480⟩:(fun (vT:Value) (wT:World)=>∃ (xT0:List Value) (xT1:Value),vT = .tuple #[.agg xT0.toArray,xT1,vI ((AP CQ (kL.take 2) ([(4:Int)]) (1:Int) ([])).2.2)]∧Enc.circle.rd wT ((Bs7458 1)++O) xT0 (kZ)∧BB Enc.share wT ((Bs7458 1)++O) xT1 ((AP CQ (kL.take 2) ([(4:Int)]) (1:Int) ([])).2.1)) (F7452 136) w7453:=hT7454 5 136 kR (by decide) kR kR
    have:=hl7480.len_le
    obtain ⟨cs7482,e7484,hs7483⟩:∃ cs:List Value,F7452 142 = .agg cs.toArray∧Enc.circle.rd w7453 ((Bs7458 1)++O) cs (kZ):=hT7454 6 142 kR (by decide) kR kR
    have hs7483:Enc.circle.rd w7453 ((b7462 :: (b7133 :: (b7081 :: [])))++O) cs7482 (kZ):=Enc.mv Enc.circle (x:=kZ) hs7483 (Mv.at_ hq7474)
    obtain ⟨v7485,e7487,hl7486⟩:∃ v,F7452 143=v∧BB Enc.share w7453 ((Bs7458 1)++O) v ((AP CQ (kL.take 2) ([(4:Int)]) (1:Int) ([])).2.1):=⟨_,rfl,hT7454 7 143 kR (by decide) kR kR⟩
    have:=hl7486.len_le
    have hl7486:=hl7486.mv (Mv.at_ hq7474)
    have hl7116:=hl7116.mv m7457
    have hl7132:=hl7132.mv m7457
    have hl7273:=hl7273.mv m7457
    have hd7223:=hd7223.mv m7457
    have hd7225:=hd7225.mv m7457
    have bx7221:=bx7221.keep k7451 (by simp)
    have hd7147:=hd7147.mv m7457
    have hd7149:=hd7149.mv m7457
    have bx7145:=bx7145.keep k7451 (by simp)
    obtain ⟨F2,rfl⟩:=AI (F:=F7452) [(1,vP (some ⟨b7081,0,none⟩)),(3,x7115),(5,vP (some ⟨b7133,0,none⟩)),(6,x7131),(11,vI ((BE kA ((BP kC (1:Int)).2.1) kL).2)),(15,v7272),(16,vI ((BE CQ ((BP kC (1:Int)).2.1) (kL.drop 1)).2)),(18,vI ((BE CQ ((BP kC (1:Int)).2.1) (((AS kC kL ([(4:UInt8)])).2.1).drop 1)).2)),(252,undef),(19,vP (some ⟨b7462,0,none⟩)),(136,vT #[vA cs7477.toArray,x7479,vI ((AP CQ (kL.take 2) ([(4:Int)]) (1:Int) ([])).2.2)]),(142,vA cs7482.toArray),(143,v7485)] ⟨hF7455 1 kR,hF7455 3 kR,hF7455 5 kR,hF7455 6 kR,hF7455 11 kR,hF7455 15 kR,hF7455 16 kR,hF7455 18 kR,hF7455 252 kR,e7466,e7481,e7484,e7487,trivial⟩
    clear hT7454 hF7455 hB7459 hl7460 sep7461
    obtain ⟨d7493,d7495,rfl,hd7494,hd7496⟩:=hs7483
    have:=hd7494.len_le
    have:=hd7496.len_le
    refine BW (BC (vs:=[vI kZ.epoch,vI kZ.threshold,vI kZ.wait,d7493,d7495]) (.agg #[vI kZ.epoch,vI kZ.threshold,vI kZ.wait,d7493,d7495]) rfl rfl rfl BJ (fun u hu=>by simp only [List.mem_cons,List.not_mem_nil,or_false] at hu;rcases hu with rfl|rfl|rfl|rfl|rfl <;> first|rfl|exact hd7494.oneCell|exact hd7496.oneCell) (by repeat (constructor)) bx7467 oT s7456 fun w7488 s7489 m7490 k7491 bx7492=>(?_))
    have hl7116:=hl7116.mv m7490
    have hl7132:=hl7132.mv m7490
    have hl7273:=hl7273.mv m7490
    have hd7494:=hd7494.mv m7490
    have hd7496:=hd7496.mv m7490
    have hl7486:=hl7486.mv m7490
    have hd7223:=hd7223.mv m7490
    have hd7225:=hd7225.mv m7490
    have bx7221:=bx7221.keep k7491 (AY ne7475)
    have hd7147:=hd7147.mv m7490
    have hd7149:=hd7149.mv m7490
    have bx7145:=bx7145.keep k7491 (AY ne7476)
    refine AA (AK (vI ((AP CQ (kL.take 2) ([(4:Int)]) (1:Int) ([])).2.2)) rfl rfl (AA (AD (v7485) rfl (AA (AD (vI ((AP CQ (kL.take 2) ([(4:Int)]) (1:Int) ([])).2.2)) rfl (AF (AC (?_))))))))
    exact ⟨b7462,d7493,d7495,v7485,(b7462 :: (b7133 :: (b7081 :: []))),trivial,⟨_,BD _ ⟨rfl,rfl,rfl,rfl,rfl,rfl,rfl,rfl,rfl,rfl,(by rfl),rfl,trivial⟩⟩,s7489,(by rw [show kW=(AP CQ (kL.take 2) ([(4:Int)]) (1:Int) ([])).2.1 from rfl];exact hl7486),hl7116,hl7132,hl7273,hd7223,hd7225,bx7221,(by (repeat (first|exact List.mem_cons_self|apply List.mem_cons_of_mem))),hd7147,hd7149,bx7145,(by (repeat (first|exact List.mem_cons_self|apply List.mem_cons_of_mem))),bx7492,hd7494,hd7496,(by repeat (constructor)),ne7475,ne7476⟩
   | 2,_=>
    intro F7498 w7499 Bs7504 k7497 hB7505 hl7506 sep7507 hT7500 hF7501
    obtain ⟨b7508,e7512,lo7509,hn7510,bx7513⟩:(QQ w7305 28 [vI 0,vI 0,vI 0,nS,nS]) (Bs7504 2) (F7498 19) w7499:=hT7500 9 19 kR (by decide) kR kR
    have hi7511:=bx7513.lt
    have hl7514:∀ x∈(b7133 :: (b7081 :: [])),x∈(b7133 :: (b7081 :: []))∨(w7305.heap.size≤x∧x<w7499.heap.size):=fun x hx=>.inl hx
    have hsu7515:∀ x∈(b7133 :: (b7081 :: [])),x∈(b7133 :: (b7081 :: [])):=fun x hx=>hx
    have hq7516:∀ x∈(b7133 :: (b7081 :: [])),x∈Bs7504 1:=fun x hx=>hB7505 1 x hx
    have hq7517:∀ x∈(b7133 :: (b7081 :: [])),x∈Bs7504 2:=fun x hx=>hB7505 2 x hx
    have hl7518:∀ x∈(b7508 :: (b7133 :: (b7081 :: []))),x∈(b7133 :: (b7081 :: []))∨(w7305.heap.size≤x∧x<w7499.heap.size):=fun x hx=>by rcases List.mem_cons.1 hx with rfl|hx;exact .inr ⟨lo7509,hi7511⟩;exact hl7514 x hx
    have hsu7519:∀ x∈(b7133 :: (b7081 :: [])),x∈(b7508 :: (b7133 :: (b7081 :: []))):=fun x hx=>List.mem_cons_of_mem _ (hsu7515 x hx)
    have hq7520:∀ x∈(b7508 :: (b7133 :: (b7081 :: []))),x∈Bs7504 1:=fun x hx=>by rcases List.mem_cons.1 hx with rfl|hx;exact sep7507 2 1 _ (by decide) lo7509 hi7511 hn7510;exact hq7516 x hx
    have s7502:=s7308.adoptL k7497 hl7518
    have m7503:Mv (b7133 :: (b7081 :: [])) w7305 (b7508 :: (b7133 :: (b7081 :: []))) w7499:=Mv.adoptL k7497 hl7518
    have ne7521:FJ b7081 b7508:=by show b7081≠b7508;have:=bx7221.lt;omega
    have ne7522:FJ b7133 b7508:=by show b7133≠b7508;have:=bx7145.lt;omega
    obtain ⟨cs7523,x7525,e7527,hs7524,hl7526⟩:(fun (vT:Value) (wT:World)=>∃ (xT0:List Value) (xT1:Value),vT = .tuple #[.agg xT0.toArray,xT1,vI ((AP CQ (kL.take 2) ([(4:Int)]) (1:Int) ([])).2.2)]∧Enc.circle.rd wT ((Bs7504 1)++O) xT0 (kZ)∧BB Enc.share wT ((Bs7504 1)++O) xT1 ((AP CQ (kL.take 2) ([(4:Int)]) (1:Int) ([])).2.1)) (F7498 136) w7499:=hT7500 5 136 kR (by decide) kR kR
    have:=hl7526.len_le
    have hl7526:=hl7526.mv (Mv.at_ hq7520)
    obtain ⟨cs7528,e7530,hs7529⟩:∃ cs:List Value,F7498 142 = .agg cs.toArray∧Enc.circle.rd w7499 ((Bs7504 1)++O) cs (kZ):=hT7500 6 142 kR (by decide) kR kR
    have hs7529:Enc.circle.rd w7499 ((b7508 :: (b7133 :: (b7081 :: [])))++O) cs7528 (kZ):=Enc.mv Enc.circle (x:=kZ) hs7529 (Mv.at_ hq7520)
    have hl7116:=hl7116.mv m7503
    have hl7132:=hl7132.mv m7503
    have hl7273:=hl7273.mv m7503
    have hd7223:=hd7223.mv m7503
    have hd7225:=hd7225.mv m7503
    have bx7221:=bx7221.keep k7497 (by simp)
    have hd7147:=hd7147.mv m7503
    have hd7149:=hd7149.mv m7503
    have bx7145:=bx7145.keep k7497 (by simp)
    obtain ⟨F2,rfl⟩:=AI (F:=F7498) [(1,vP (some ⟨b7081,0,none⟩)),(3,x7115),(5,vP (some ⟨b7133,0,none⟩)),(6,x7131),(11,vI ((BE kA ((BP kC (1:Int)).2.1) kL).2)),(15,v7272),(16,vI ((BE CQ ((BP kC (1:Int)).2.1) (kL.drop 1)).2)),(18,vI ((BE CQ ((BP kC (1:Int)).2.1) (((AS kC kL ([(4:UInt8)])).2.1).drop 1)).2)),(252,undef),(19,vP (some ⟨b7508,0,none⟩)),(136,vT #[vA cs7523.toArray,x7525,vI ((AP CQ (kL.take 2) ([(4:Int)]) (1:Int) ([])).2.2)]),(142,vA cs7528.toArray)] ⟨hF7501 1 kR,hF7501 3 kR,hF7501 5 kR,hF7501 6 kR,hF7501 11 kR,hF7501 15 kR,hF7501 16 kR,hF7501 18 kR,hF7501 252 kR,e7512,e7527,e7530,trivial⟩
    clear hT7500 hF7501 hB7505 hl7506 sep7507
    obtain ⟨d7536,d7538,rfl,hd7537,hd7539⟩:=hs7529
    have:=hd7537.len_le
    have:=hd7539.len_le
    refine BW (BC (vs:=[vI kZ.epoch,vI kZ.threshold,vI kZ.wait,d7536,d7538]) (.agg #[vI kZ.epoch,vI kZ.threshold,vI kZ.wait,d7536,d7538]) rfl rfl rfl BJ (fun u hu=>by simp only [List.mem_cons,List.not_mem_nil,or_false] at hu;rcases hu with rfl|rfl|rfl|rfl|rfl <;> first|rfl|exact hd7537.oneCell|exact hd7539.oneCell) (by repeat (constructor)) bx7513 oT s7502 fun w7531 s7532 m7533 k7534 bx7535=>(?_))
    have hl7116:=hl7116.mv m7533
    have hl7132:=hl7132.mv m7533
    have hl7273:=hl7273.mv m7533
    have hl7526:=hl7526.mv m7533
    have hd7537:=hd7537.mv m7533
    have hd7539:=hd7539.mv m7533
    have hd7223:=hd7223.mv m7533
    have hd7225:=hd7225.mv m7533
    have bx7221:=bx7221.keep k7534 (AY ne7521)
    have hd7147:=hd7147.mv m7533
    have hd7149:=hd7149.mv m7533
    have bx7145:=bx7145.keep k7534 (AY ne7522)
    refine AA (AK (x7525) rfl rfl (AA (AK (vI ((AP CQ (kL.take 2) ([(4:Int)]) (1:Int) ([])).2.2)) rfl rfl (AA (AD (x7525) rfl (AA (AD (vI ((AP CQ (kL.take 2) ([(4:Int)]) (1:Int) ([])).2.2)) rfl (AF (AC (?_))))))))))
    exact ⟨b7508,d7536,d7538,x7525,(b7508 :: (b7133 :: (b7081 :: []))),trivial,⟨_,BD _ ⟨rfl,rfl,rfl,rfl,rfl,rfl,rfl,rfl,rfl,rfl,(by rfl),rfl,trivial⟩⟩,s7532,(by rw [show kW=(AP CQ (kL.take 2) ([(4:Int)]) (1:Int) ([])).2.1 from rfl];exact hl7526),hl7116,hl7132,hl7273,hd7223,hd7225,bx7221,(by (repeat (first|exact List.mem_cons_self|apply List.mem_cons_of_mem))),hd7147,hd7149,bx7145,(by (repeat (first|exact List.mem_cons_self|apply List.mem_cons_of_mem))),bx7535,hd7537,hd7539,(by repeat (constructor)),ne7521,ne7522⟩
 ·intro F wlc146 hI
  clear hl7116 hl7132 hl7273 hd7223 hd7225 bx7221 hd7147 hd7149 bx7145
  obtain ⟨bnc146_19,vnc146_19_3,vnc146_19_4,vrc146_20,Blc146,hmc146,⟨Flc146,rfl⟩,slc146,hrdc146_20,hl7116,hl7132,hl7273,hd7223,hd7225,bx7221,hin_b7081,hd7147,hd7149,bx7145,hin_b7133,hbn_bnc146_19,hvnc146_19_3,hvnc146_19_4,hin_bnc146_19,nebnc146_19_b7081,nebnc146_19_b7133⟩:=hI
  have:=hrdc146_20.len_le
  have:=hvnc146_19_3.len_le
  have:=hvnc146_19_4.len_le
  refine AE (?_)
  refine AB kR (AA (DV (l:=[]) QM KY rfl [] [vI 0,vI 0,vI 0,nS,nS] rfl rfl (AA (AZ (vs:=[vA #[vI 0,vI 0,vI 0,nS,nS],nS,nS]) PE (c_deal (O:=Blc146++O) [vI 0,vI 0,vI 0,nS,nS] (⟨(0:Int),(0:Int),(0:Int),[],[]⟩:Circle) (.slice none 0 0) [] (.slice none 0 0) [] wlc146 ⟨.slice none 0 0, .slice none 0 0,rfl,(BB.nil _ _ _),(BB.nil _ _ _)⟩ (BB.nil _ _ _) (BB.nil _ _ _) slc146.lt) rfl slc146 fun v7540 w7541 s7542 m7543 k7544 r7545=>(?_)))))
  obtain ⟨x7546,rfl,hl7547⟩:=r7545
  have:=hl7547.len_le
  have hl7116:=hl7116.mv m7543
  have hl7132:=hl7132.mv m7543
  have hl7273:=hl7273.mv m7543
  have hrdc146_20:=hrdc146_20.mv m7543
  have hd7223:=hd7223.mv m7543
  have hd7225:=hd7225.mv m7543
  have bx7221:=bx7221.keep k7544 (by simp)
  have hd7147:=hd7147.mv m7543
  have hd7149:=hd7149.mv m7543
  have bx7145:=bx7145.keep k7544 (by simp)
  have hbn_bnc146_19:=hbn_bnc146_19.keep k7544 (by simp)
  refine AA (AG (vT #[x7546,vI ((CV (⟨(0:Int),(0:Int),(0:Int),[],[]⟩:Circle) ([]) ([])).2)]) rfl (AA (AK (x7546) rfl rfl (AA (AK (vI ((CV (⟨(0:Int),(0:Int),(0:Int),[],[]⟩:Circle) ([]) ([])).2)) rfl rfl (AA (AD (x7546) rfl (AA (AD (vI ((CV (⟨(0:Int),(0:Int),(0:Int),[],[]⟩:Circle) ([]) ([])).2)) rfl (AF (AC (?_))))))))))))
  refine AE (?_)
  refine AB kR (AA (BM (vs:=[vI CQ.epoch,vI CQ.threshold,vI CQ.wait,d7222,d7224]) U28_ rfl BJ rfl bx7221 rfl (AA (AZ (vs:=[vA #[vI CQ.epoch,vI CQ.threshold,vI CQ.wait,d7222,d7224],nS,nS]) enter_24 (c_renew (O:=Blc146++O) [vI CQ.epoch,vI CQ.threshold,vI CQ.wait,d7222,d7224] CQ (.slice none 0 0) [] (.slice none 0 0) [] w7541 ⟨_,_,rfl,hd7223,hd7225⟩ (BB.nil _ _ _) (BB.nil _ _ _) s7542.lt) rfl s7542 fun v7548 w7549 s7550 m7551 k7552 r7553=>(?_)))))
  obtain ⟨cs7554,x7556,rfl,hs7555,hl7557⟩:=r7553
  have:=hl7557.len_le
  have hl7116:=hl7116.mv m7551
  have hl7132:=hl7132.mv m7551
  have hl7273:=hl7273.mv m7551
  have hrdc146_20:=hrdc146_20.mv m7551
  have bx7221:=bx7221.keep k7552 (by simp)
  have hd7147:=hd7147.mv m7551
  have hd7149:=hd7149.mv m7551
  have bx7145:=bx7145.keep k7552 (by simp)
  have hbn_bnc146_19:=hbn_bnc146_19.keep k7552 (by simp)
  refine AA (AG (vT #[vA cs7554.toArray,x7556,vI ((AS CQ ([]) ([])).2.2)]) rfl (AA (AK (vA cs7554.toArray) rfl rfl (AA (AK (x7556) rfl rfl (AA (AK (vI ((AS CQ ([]) ([])).2.2)) rfl rfl (AA (CU [vI 0,vI 0,vI 0,nS,nS] KY rfl s7550 fun b7558 w7559 e7564 s7560 m7561 k7562 bx7563=>(?_))))))))))
  have ne7565:FJ b7081 b7558:=by show b7081≠b7558;have:=bx7221.lt;omega
  have ne7566:FJ b7133 b7558:=by show b7133≠b7558;have:=bx7145.lt;omega
  have ne7567:FJ bnc146_19 b7558:=by show bnc146_19≠b7558;have:=hbn_bnc146_19.lt;omega
  clear e7564
  have hl7116:=hl7116.mv m7561
  have hl7132:=hl7132.mv m7561
  have hl7273:=hl7273.mv m7561
  have hrdc146_20:=hrdc146_20.mv m7561
  have hs7555:Enc.circle.rd w7559 ((b7558 :: Blc146)++O) cs7554 ((AS CQ ([]) ([])).1):=Enc.mv Enc.circle (x:=(AS CQ ([]) ([])).1) hs7555 m7561
  have hd7147:=hd7147.mv m7561
  have hd7149:=hd7149.mv m7561
  have bx7145:=bx7145.keep k7562 (by simp)
  have hbn_bnc146_19:=hbn_bnc146_19.keep k7562 (by simp)
  obtain ⟨d7573,d7575,rfl,hd7574,hd7576⟩:=hs7555
  have:=hd7574.len_le
  have:=hd7576.len_le
  refine BW (BC (vs:=[vI (((AS CQ ([]) ([])).1).epoch),vI (((AS CQ ([]) ([])).1).threshold),vI (((AS CQ ([]) ([])).1).wait),d7573,d7575]) (.agg #[vI (((AS CQ ([]) ([])).1).epoch),vI (((AS CQ ([]) ([])).1).threshold),vI (((AS CQ ([]) ([])).1).wait),d7573,d7575]) rfl rfl rfl BJ (fun u hu=>by simp only [List.mem_cons,List.not_mem_nil,or_false] at hu;rcases hu with rfl|rfl|rfl|rfl|rfl <;> first|rfl|exact hd7574.oneCell|exact hd7576.oneCell) (by repeat (constructor)) bx7563 oT s7560 fun w7568 s7569 m7570 k7571 bx7572=>(?_))
  have hl7116:=hl7116.mv m7570
  have hl7132:=hl7132.mv m7570
  have hl7273:=hl7273.mv m7570
  have hrdc146_20:=hrdc146_20.mv m7570
  have hd7147:=hd7147.mv m7570
  have hd7149:=hd7149.mv m7570
  have bx7145:=bx7145.keep k7571 (AY ne7566)
  have hbn_bnc146_19:=hbn_bnc146_19.keep k7571 (AY ne7567)
  refine AA (AD (x7556) rfl (AA (AD (vI ((AS CQ ([]) ([])).2.2)) rfl (AF (AC (?_))))))
  refine AE (?_)
  refine AB kR (AA (BM (vs:=[vI kX.epoch,vI kX.threshold,vI kX.wait,d7146,d7148]) U28_ rfl BJ rfl bx7145 rfl (AA (AG (x7131) rfl (AA (AZ (vs:=[vA #[vI kX.epoch,vI kX.threshold,vI kX.wait,d7146,d7148],vI 0,x7131]) MN (RV (O:=(b7558 :: Blc146)++O) [vI kX.epoch,vI kX.threshold,vI kX.wait,d7146,d7148] kX (0:Int) x7131 ((AS kC kL ([(4:UInt8)])).2.1) w7568 ⟨_,_,rfl,hd7147,hd7149⟩ hl7132 s7569.lt) rfl s7569 fun v7577 w7578 s7579 m7580 k7581 r7582=>(?_)))))))
  obtain ⟨x7583,rfl,hl7584⟩:=r7582
  have:=hl7584.len_le
  have hl7116:=hl7116.mv m7580
  have hl7132:=hl7132.mv m7580
  have hl7273:=hl7273.mv m7580
  have hrdc146_20:=hrdc146_20.mv m7580
  have bx7145:=bx7145.keep k7581 (by simp)
  have hbn_bnc146_19:=hbn_bnc146_19.keep k7581 (by simp)
  refine AA (AG (vT #[x7583,vI ((BE kX (0:Int) ((AS kC kL ([(4:UInt8)])).2.1)).2)]) rfl (AA (AK (x7583) rfl rfl (AA (AK (vI ((BE kX (0:Int) ((AS kC kL ([(4:UInt8)])).2.1)).2)) rfl rfl (AA (AD (x7583) rfl (AA (AD (vI ((BE kX (0:Int) ((AS kC kL ([(4:UInt8)])).2.1)).2)) rfl (AF (AC (?_))))))))))))
  refine AE (?_)
  refine AB kR (AA (AZ (vs:=[nS,nS,nS]) enter_18 (c_mixed (O:=(b7558 :: Blc146)++O) (.slice none 0 0) [] (.slice none 0 0) [] (.slice none 0 0) [] w7578 (BB.nil _ _ _) (BB.nil _ _ _) (BB.nil _ _ _) s7579.lt) rfl s7579 fun v7585 w7586 s7587 m7588 k7589 r7590=>(?_)))
  obtain ⟨x7591,rfl,hl7592⟩:=r7590
  have:=hl7592.len_le
  have hl7116:=hl7116.mv m7588
  have hl7132:=hl7132.mv m7588
  have hl7273:=hl7273.mv m7588
  have hrdc146_20:=hrdc146_20.mv m7588
  have bx7145:=bx7145.keep k7589 (by simp)
  have hbn_bnc146_19:=hbn_bnc146_19.keep k7589 (by simp)
  refine AA (AG (vT #[x7591,vI ((BS ([]) ([]) ([])).2)]) rfl (AA (AK (x7591) rfl rfl (AA (AK (vI ((BS ([]) ([]) ([])).2)) rfl rfl (AA (AD (x7591) rfl (AA (AD (vI ((BS ([]) ([]) ([])).2)) rfl (AF (AC (?_))))))))))))
  refine AE (?_)
  refine cw_draw' 10 _ _ [fun (vT:Value) (wT:World)=>BB Enc.share wT ((b7558 :: Blc146)++O) vT (kL),fun (vT:Value) (wT:World)=>BB Enc.share wT ((b7558 :: Blc146)++O) vT ((kL.take 1)),fun (vT:Value) (wT:World)=>BB Enc.share wT ((b7558 :: Blc146)++O) vT ((AS kC kL ([(4:UInt8)])).2.1),fun (vT:Value) (wT:World)=>BB Enc.share wT ((b7558 :: Blc146)++O) vT ((((AS kC kL ([(4:UInt8)])).2.1).drop 2)),fun (vT:Value) (wT:World)=>BB Enc.u8 wT ((b7558 :: Blc146)++O) vT ([(200:UInt8)]),fun (vT:Value) (wT:World)=>∃ (xT0:Value),vT = .tuple #[xT0,vI ((BS (kL.take 1) (((AS kC kL ([(4:UInt8)])).2.1).drop 2) ([(200:UInt8)])).2)]∧BB Enc.u8 wT ((b7558 :: Blc146)++O) xT0 ((BS (kL.take 1) (((AS kC kL ([(4:UInt8)])).2.1).drop 2) ([(200:UInt8)])).1),fun (vT:Value) (wT:World)=>∃ (xT0:Value),vT = .tuple #[xT0,vI ((BS (kL.take 1) (((AS kC kL ([(4:UInt8)])).2.1).drop 2) ([(200:UInt8)])).2)]∧BB Enc.u8 wT ((b7558 :: Blc146)++O) xT0 ((BS (kL.take 1) (((AS kC kL ([(4:UInt8)])).2.1).drop 2) ([(200:UInt8)])).1),fun (vT:Value) (wT:World)=>BB Enc.u8 wT ((b7558 :: Blc146)++O) vT ((BS (kL.take 1) (((AS kC kL ([(4:UInt8)])).2.1).drop 2) ([(200:UInt8)])).1),CZ (vI ((BS (kL.take 1) (((AS kC kL ([(4:UInt8)])).2.1).drop 2) ([(200:UInt8)])).2)),fun (vT:Value) (wT:World)=>BB Enc.u8 wT ((b7558 :: Blc146)++O) vT ((BS (kL.take 1) (((AS kC kL ([(4:UInt8)])).2.1).drop 2) ([(200:UInt8)])).1)] kR kR kR kR rfl rfl ⟨fun _ _ _ h k=>h.mv (Mv.of_keep k),fun _ _ _ h k=>h.mv (Mv.of_keep k),fun _ _ _ h k=>h.mv (Mv.of_keep k),fun _ _ _ h k=>h.mv (Mv.of_keep k),fun _ _ _ h k=>h.mv (Mv.of_keep k),fun _ _ _ ⟨y0,e,h0⟩ k=>⟨y0,e,h0.mv (Mv.of_keep k)⟩,fun _ _ _ ⟨y0,e,h0⟩ k=>⟨y0,e,h0.mv (Mv.of_keep k)⟩,fun _ _ _ h k=>h.mv (Mv.of_keep k),kI,fun _ _ _ h k=>h.mv (Mv.of_keep k),trivial⟩ ⟨?_,?_,?_,?_,?_,?_,?_,?_,?_,?_,trivial⟩ ?_
  ·intro F1 w1 k1 hf hd
   have k0:=(Keep.drew [] w7586).trans k1
   have m1:Mv (b7558 :: Blc146) w7586 (b7558 :: Blc146) w1:=Mv.of_keep k0
   have hl7116:=hl7116.mv m1
   obtain ⟨F2,rfl⟩:=AI (F:=F1) [(3,x7115)] ⟨hf 3 kR,trivial⟩
   exact AH rfl ((AG (x7115) rfl (⟨(Keep.refl _ _),hl7116⟩)))
  ·intro F1 w1 k1 hf hd
   obtain ⟨v7593,e7595,hl7594⟩:∃ v,F1 167=v∧BB Enc.share w1 ((b7558 :: Blc146)++O) v (kL):=⟨_,rfl,hd 0 167 kR⟩
   have:=hl7594.len_le
   obtain ⟨F2,rfl⟩:=AI (F:=F1) [(167,v7593)] ⟨e7595,trivial⟩
   refine AH rfl ((MB U32_ DL 0 1 rfl (.inl ⟨rfl,rfl⟩) (.inr ⟨.const (vI 1), .i64,(1:Int),rfl,rfl,rfl⟩) (by decide +kernel) (by decide +kernel) hl7594 fun v7596 hl7597=>(?_)))
   rw [List.drop_zero] at hl7597
   exact ⟨(Keep.refl _ _),hl7597⟩
  ·intro F1 w1 k1 hf hd
   have k0:=(Keep.drew [] w7586).trans k1
   have m1:Mv (b7558 :: Blc146) w7586 (b7558 :: Blc146) w1:=Mv.of_keep k0
   have hl7132:=hl7132.mv m1
   obtain ⟨F2,rfl⟩:=AI (F:=F1) [(6,x7131)] ⟨hf 6 kR,trivial⟩
   exact AH rfl ((AG (x7131) rfl (⟨(Keep.refl _ _),hl7132⟩)))
  ·intro F1 w1 k1 hf hd
   obtain ⟨v7598,e7600,hl7599⟩:∃ v,F1 169=v∧BB Enc.share w1 ((b7558 :: Blc146)++O) v ((AS kC kL ([(4:UInt8)])).2.1):=⟨_,rfl,hd 2 169 kR⟩
   have:=hl7599.len_le
   obtain ⟨F2,rfl⟩:=AI (F:=F1) [(169,v7598)] ⟨e7600,trivial⟩
   refine AH rfl ((MB U32_ DL 2 (((AS kC kL ([(4:UInt8)])).2.1).length) rfl (.inr ⟨.const (vI 2), .i64,(2:Int),rfl,rfl,rfl⟩) (.inl ⟨rfl,rfl⟩) (by decide +kernel) (by decide +kernel) hl7599 fun v7601 hl7602=>(?_)))
   rw [List.take_length] at hl7602
   exact ⟨(Keep.refl _ _),hl7602⟩
  ·intro F1 w1 k1 hf hd
   have k0:=(Keep.drew [] w7586).trans k1
   have s1:=s7587.call k0
   obtain ⟨F2,rfl⟩:=AI (F:=F1) [] trivial
   refine AH rfl ((IV (E:=Enc.u8) (xs:=[.const (vB (200:UInt8))]) U23_ HY z_5 (by decide) [vB (200:UInt8)] [[vB (200:UInt8)]] [(200:UInt8)] rfl rfl rfl (Parts.cons rfl rfl (Parts.nil _ _ _)) oT s1 fun v7607 w7603 s7604 m7605 k7606 hl7608=>(?_)))
   have:=hl7608.len_le
   exact ⟨k7606,hl7608⟩
  ·intro F1 w1 k1 hf hd
   have k0:=(Keep.drew [] w7586).trans k1
   have s1:=s7587.call k0
   obtain ⟨v7609,e7611,hl7610⟩:∃ v,F1 168=v∧BB Enc.share w1 ((b7558 :: Blc146)++O) v ((kL.take 1)):=⟨_,rfl,hd 1 168 kR⟩
   have:=hl7610.len_le
   obtain ⟨v7612,e7614,hl7613⟩:∃ v,F1 170=v∧BB Enc.share w1 ((b7558 :: Blc146)++O) v ((((AS kC kL ([(4:UInt8)])).2.1).drop 2)):=⟨_,rfl,hd 3 170 kR⟩
   have:=hl7613.len_le
   obtain ⟨v7615,e7617,hl7616⟩:∃ v,F1 171=v∧BB Enc.u8 w1 ((b7558 :: Blc146)++O) v ([(200:UInt8)]):=⟨_,rfl,hd 4 171 kR⟩
   have:=hl7616.len_le
   obtain ⟨F2,rfl⟩:=AI (F:=F1) [(168,v7609),(170,v7612),(171,v7615)] ⟨e7611,e7614,e7617,trivial⟩
   refine AH rfl ((AZ (vs:=[v7609,v7612,v7615]) enter_18 (c_mixed (O:=(b7558 :: Blc146)++O) v7609 (kL.take 1) v7612 (((AS kC kL ([(4:UInt8)])).2.1).drop 2) v7615 ([(200:UInt8)]) w1 hl7610 hl7613 hl7616 s1.lt) rfl s1 fun v7618 w7619 s7620 m7621 k7622 r7623=>(?_)))
   obtain ⟨x7624,rfl,hl7625⟩:=r7623
   have:=hl7625.len_le
   exact ⟨k7622,⟨x7624,rfl,hl7625⟩⟩
  ·intro F1 w1 k1 hf hd
   obtain ⟨x7626,e7628,hl7627⟩:(fun (vT:Value) (wT:World)=>∃ (xT0:Value),vT = .tuple #[xT0,vI ((BS (kL.take 1) (((AS kC kL ([(4:UInt8)])).2.1).drop 2) ([(200:UInt8)])).2)]∧BB Enc.u8 wT ((b7558 :: Blc146)++O) xT0 ((BS (kL.take 1) (((AS kC kL ([(4:UInt8)])).2.1).drop 2) ([(200:UInt8)])).1)) (F1 172) w1:=hd 5 172 kR
   have:=hl7627.len_le
   obtain ⟨F2,rfl⟩:=AI (F:=F1) [(172,vT #[x7626,vI ((BS (kL.take 1) (((AS kC kL ([(4:UInt8)])).2.1).drop 2) ([(200:UInt8)])).2)])] ⟨e7628,trivial⟩
   exact AH rfl ((AG (vT #[x7626,vI ((BS (kL.take 1) (((AS kC kL ([(4:UInt8)])).2.1).drop 2) ([(200:UInt8)])).2)]) rfl (⟨(Keep.refl _ _),⟨x7626,rfl,hl7627⟩⟩)))
  ·intro F1 w1 k1 hf hd
   obtain ⟨x7629,e7631,hl7630⟩:(fun (vT:Value) (wT:World)=>∃ (xT0:Value),vT = .tuple #[xT0,vI ((BS (kL.take 1) (((AS kC kL ([(4:UInt8)])).2.1).drop 2) ([(200:UInt8)])).2)]∧BB Enc.u8 wT ((b7558 :: Blc146)++O) xT0 ((BS (kL.take 1) (((AS kC kL ([(4:UInt8)])).2.1).drop 2) ([(200:UInt8)])).1)) (F1 166) w1:=hd 6 166 kR
   have:=hl7630.len_le
   obtain ⟨F2,rfl⟩:=AI (F:=F1) [(166,vT #[x7629,vI ((BS (kL.take 1) (((AS kC kL ([(4:UInt8)])).2.1).drop 2) ([(200:UInt8)])).2)])] ⟨e7631,trivial⟩
   exact AH rfl ((AK (x7629) rfl rfl (⟨(Keep.refl _ _),hl7630⟩)))
  ·intro F1 w1 k1 hf hd
   obtain ⟨x7632,e7634,hl7633⟩:(fun (vT:Value) (wT:World)=>∃ (xT0:Value),vT = .tuple #[xT0,vI ((BS (kL.take 1) (((AS kC kL ([(4:UInt8)])).2.1).drop 2) ([(200:UInt8)])).2)]∧BB Enc.u8 wT ((b7558 :: Blc146)++O) xT0 ((BS (kL.take 1) (((AS kC kL ([(4:UInt8)])).2.1).drop 2) ([(200:UInt8)])).1)) (F1 166) w1:=hd 6 166 kR
   have:=hl7633.len_le
   obtain ⟨F2,rfl⟩:=AI (F:=F1) [(166,vT #[x7632,vI ((BS (kL.take 1) (((AS kC kL ([(4:UInt8)])).2.1).drop 2) ([(200:UInt8)])).2)])] ⟨e7634,trivial⟩
   exact AH rfl ((AK (vI ((BS (kL.take 1) (((AS kC kL ([(4:UInt8)])).2.1).drop 2) ([(200:UInt8)])).2)) rfl rfl (⟨(Keep.refl _ _),rfl⟩)))
  ·intro F1 w1 k1 hf hd
   obtain ⟨v7635,e7637,hl7636⟩:∃ v,F1 173=v∧BB Enc.u8 w1 ((b7558 :: Blc146)++O) v ((BS (kL.take 1) (((AS kC kL ([(4:UInt8)])).2.1).drop 2) ([(200:UInt8)])).1):=⟨_,rfl,hd 7 173 kR⟩
   have:=hl7636.len_le
   obtain ⟨F2,rfl⟩:=AI (F:=F1) [(173,v7635)] ⟨e7637,trivial⟩
   exact AH rfl ((AD (v7635) rfl (⟨(Keep.refl _ _),hl7636⟩)))
  intro F7639 w7640 k7638 hT7641 hF7642
  have s7643:=s7587.call k7638
  have m7644:Mv (b7558 :: Blc146) w7586 (b7558 :: Blc146) w7640:=Mv.of_keep k7638
  have hl7132:=hl7132.mv m7644
  have hl7273:=hl7273.mv m7644
  have hrdc146_20:=hrdc146_20.mv m7644
  have bx7145:=bx7145.keep k7638 (by simp)
  have hbn_bnc146_19:=hbn_bnc146_19.keep k7638 (by simp)
  obtain ⟨v7647,e7649,hl7648⟩:∃ v,F7639 31=v∧BB Enc.u8 w7640 ((b7558 :: Blc146)++O) v ((BS (kL.take 1) (((AS kC kL ([(4:UInt8)])).2.1).drop 2) ([(200:UInt8)])).1):=⟨_,rfl,hT7641 9 31 kR (by decide)⟩
  have:=hl7648.len_le
  obtain ⟨F2,rfl⟩:=AI (F:=F7639) [(5,vP (some ⟨b7133,0,none⟩)),(6,x7131),(11,vI ((BE kA ((BP kC (1:Int)).2.1) kL).2)),(15,v7272),(16,vI ((BE CQ ((BP kC (1:Int)).2.1) (kL.drop 1)).2)),(18,vI ((BE CQ ((BP kC (1:Int)).2.1) (((AS kC kL ([(4:UInt8)])).2.1).drop 1)).2)),(19,vP (some ⟨bnc146_19,0,none⟩)),(20,vrc146_20),(21,vI kE),(23,vI ((CV (⟨(0:Int),(0:Int),(0:Int),[],[]⟩:Circle) ([]) ([])).2)),(26,vI ((AS CQ ([]) ([])).2.2)),(28,vI ((BE kX (0:Int) ((AS kC kL ([(4:UInt8)])).2.1)).2)),(30,vI ((BS ([]) ([]) ([])).2)),(252,undef),(31,v7647),(174,vI ((BS (kL.take 1) (((AS kC kL ([(4:UInt8)])).2.1).drop 2) ([(200:UInt8)])).2))] ⟨hF7642 5 kR,hF7642 6 kR,hF7642 11 kR,hF7642 15 kR,hF7642 16 kR,hF7642 18 kR,hF7642 19 kR,hF7642 20 kR,hF7642 21 kR,hF7642 23 kR,hF7642 26 kR,hF7642 28 kR,hF7642 30 kR,hF7642 252 kR,e7649,hT7641 8 174 kR (by decide),trivial⟩
  clear hT7641 hF7642
  refine AA (AD (vI ((BS (kL.take 1) (((AS kC kL ([(4:UInt8)])).2.1).drop 2) ([(200:UInt8)])).2)) rfl (AF (AC (?_))))
  refine AE (?_)
  refine AE (?_)
  refine AB kR (AA (AG (vI ((BE CQ ((BP kC (1:Int)).2.1) (kL.drop 1)).2)) rfl (AA (CP .i64 ((BE CQ ((BP kC (1:Int)).2.1) (kL.drop 1)).2) (0:Int) rfl rfl (AA (AG (vO (((BE CQ ((BP kC (1:Int)).2.1) (kL.drop 1)).2) != (0:Int))) rfl (?_)))))))
  have hb7650:(((BE CQ ((BP kC (1:Int)).2.1) (kL.drop 1)).2) != (0:Int))=false:=(by decide +kernel)
  rw [hb7650]
  refine AX rfl (AG (vI ((BE CQ ((BP kC (1:Int)).2.1) (((AS kC kL ([(4:UInt8)])).2.1).drop 1)).2)) rfl (AX rfl (CP .i64 ((BE CQ ((BP kC (1:Int)).2.1) (((AS kC kL ([(4:UInt8)])).2.1).drop 1)).2) (460:Int) rfl rfl (AA (BU (vO (((BE CQ ((BP kC (1:Int)).2.1) (((AS kC kL ([(4:UInt8)])).2.1).drop 1)).2) != (460:Int))) rfl rfl (AA (AG (vO (((BE CQ ((BP kC (1:Int)).2.1) (((AS kC kL ([(4:UInt8)])).2.1).drop 1)).2) != (460:Int))) rfl (?_))))))))
  have hb7651:(((BE CQ ((BP kC (1:Int)).2.1) (((AS kC kL ([(4:UInt8)])).2.1).drop 1)).2) != (460:Int))=false:=(by decide +kernel)
  rw [hb7651]
  refine AX rfl (AG (vI kE) rfl (AX rfl (CP .i64 kE (0:Int) rfl rfl (AA (BU (vO (kE != (0:Int))) rfl rfl (AA (AG (vO (kE != (0:Int))) rfl (?_))))))))
  have hb7652:(kE != (0:Int))=false:=(by decide +kernel)
  rw [hb7652]
  refine AX rfl (AG (vI ((CV (⟨(0:Int),(0:Int),(0:Int),[],[]⟩:Circle) ([]) ([])).2)) rfl (AX rfl (CP .i64 ((CV (⟨(0:Int),(0:Int),(0:Int),[],[]⟩:Circle) ([]) ([])).2) (450:Int) rfl rfl (AA (BU (vO (((CV (⟨(0:Int),(0:Int),(0:Int),[],[]⟩:Circle) ([]) ([])).2) != (450:Int))) rfl rfl (AA (AG (vO (((CV (⟨(0:Int),(0:Int),(0:Int),[],[]⟩:Circle) ([]) ([])).2) != (450:Int))) rfl (?_))))))))
  have hb7653:(((CV (⟨(0:Int),(0:Int),(0:Int),[],[]⟩:Circle) ([]) ([])).2) != (450:Int))=false:=(by decide +kernel)
  rw [hb7653]
  refine AX rfl (AG (vI ((AS CQ ([]) ([])).2.2)) rfl (AX rfl (CP .i64 ((AS CQ ([]) ([])).2.2) (80:Int) rfl rfl (AA (BU (vO (((AS CQ ([]) ([])).2.2) != (80:Int))) rfl rfl (AA (AG (vO (((AS CQ ([]) ([])).2.2) != (80:Int))) rfl (?_))))))))
  have hb7654:(((AS CQ ([]) ([])).2.2) != (80:Int))=false:=(by decide +kernel)
  rw [hb7654]
  refine AX rfl (AG (vI ((BE kX (0:Int) ((AS kC kL ([(4:UInt8)])).2.1)).2)) rfl (AX rfl (CP .i64 ((BE kX (0:Int) ((AS kC kL ([(4:UInt8)])).2.1)).2) (1:Int) rfl rfl (AA (BU (vO (((BE kX (0:Int) ((AS kC kL ([(4:UInt8)])).2.1)).2) != (1:Int))) rfl rfl (AA (AG (vO (((BE kX (0:Int) ((AS kC kL ([(4:UInt8)])).2.1)).2) != (1:Int))) rfl (?_))))))))
  have hb7655:(((BE kX (0:Int) ((AS kC kL ([(4:UInt8)])).2.1)).2) != (1:Int))=false:=(by decide +kernel)
  rw [hb7655]
  refine AX rfl (AG (vI ((BS ([]) ([]) ([])).2)) rfl (AX rfl (CP .i64 ((BS ([]) ([]) ([])).2) (80:Int) rfl rfl (AA (BU (vO (((BS ([]) ([]) ([])).2) != (80:Int))) rfl rfl (AA (AG (vO (((BS ([]) ([]) ([])).2) != (80:Int))) rfl (?_))))))))
  have hb7656:(((BS ([]) ([]) ([])).2) != (80:Int))=false:=(by decide +kernel)
  rw [hb7656]
  refine AX rfl (AG (vI ((BS (kL.take 1) (((AS kC kL ([(4:UInt8)])).2.1).drop 2) ([(200:UInt8)])).2)) rfl (AX rfl (CP .i64 ((BS (kL.take 1) (((AS kC kL ([(4:UInt8)])).2.1).drop 2) ([(200:UInt8)])).2) (0:Int) rfl rfl (AA (BU (vO (((BS (kL.take 1) (((AS kC kL ([(4:UInt8)])).2.1).drop 2) ([(200:UInt8)])).2) != (0:Int))) rfl rfl (AA (AG (vO (((BS (kL.take 1) (((AS kC kL ([(4:UInt8)])).2.1).drop 2) ([(200:UInt8)])).2) != (0:Int))) rfl (?_))))))))
  have hb7657:(((BS (kL.take 1) (((AS kC kL ([(4:UInt8)])).2.1).drop 2) ([(200:UInt8)])).2) != (0:Int))=false:=(by decide +kernel)
  rw [hb7657]
  refine AX rfl (AG (vI ((BE kA ((BP kC (1:Int)).2.1) kL).2)) rfl (AX rfl (CP .i64 ((BE kA ((BP kC (1:Int)).2.1) kL).2) (460:Int) rfl rfl (AA (BU (vO (((BE kA ((BP kC (1:Int)).2.1) kL).2) != (460:Int))) rfl rfl (AA (AG (vO (((BE kA ((BP kC (1:Int)).2.1) kL).2) != (460:Int))) rfl (?_))))))))
  have hb7658:(((BE kA ((BP kC (1:Int)).2.1) kL).2) != (460:Int))=false:=(by decide +kernel)
  rw [hb7658]
  refine AX rfl (AG (vrc146_20) rfl (AX rfl (CC U32_ rfl hrdc146_20 (AX rfl (CP .i64 (kW.length:Int) (1:Int) rfl rfl (AA (BU (vO ((kW.length:Int) != (1:Int))) rfl rfl (AF (AC (?_))))))))))
  have hb7659:((kW.length:Int) != (1:Int))=false:=(by decide +kernel)
  rw [hb7659]
  refine AJ false rfl rfl (fun h=>by cases h) (fun _=>?_)
  refine AR (AC (?_))
  refine AE (?_)
  refine AB kR (AA (AG (v7272) rfl (AA (QX U23_ U5_ U9_ rfl hl7273 (AA (o_eqlS ((BE CQ ((BP kC (1:Int)).2.1) (kL.drop 1)).1) ([7]:List UInt8) rfl rfl (AA (AG (vO (((BE CQ ((BP kC (1:Int)).2.1) (kL.drop 1)).1) == ([7]:List UInt8))) rfl (?_)))))))))
  have hb7660:(((BE CQ ((BP kC (1:Int)).2.1) (kL.drop 1)).1) == ([7]:List UInt8))=true:=(by decide +kernel)
  rw [hb7660]
  refine AX rfl (AT 0 JO rfl (AX rfl (AV U3_ rfl (vI kX.epoch) rfl bx7145 rfl (AX rfl (FK .i64 kX.epoch (1:Int) rfl rfl (AA (BG (vO (kX.epoch == (1:Int))) rfl rfl (AA (AG (vO (kX.epoch == (1:Int))) rfl (?_))))))))))
  have hb7661:(kX.epoch == (1:Int))=true:=(by decide +kernel)
  rw [hb7661]
  refine AX rfl (AG (x7131) rfl (AX rfl (DA U32_ DL .i64 (0:Int) 0 rfl rfl rfl hl7132 (by decide +kernel) fun a7662 hp7663=>(AX rfl (BF 0 HN ((((AS kC kL ([(4:UInt8)])).2.1)[0]!).epoch) rfl hp7663 (fun _ _ _ h=>LP h) fun a7664 hp7665=>(AX rfl (CA U3_ rfl rfl hp7665 (AX rfl (FK .i64 ((((AS kC kL ([(4:UInt8)])).2.1)[0]!).epoch) (1:Int) rfl rfl (AA (BG (vO (((((AS kC kL ([(4:UInt8)])).2.1)[0]!).epoch) == (1:Int))) rfl rfl (AA (AG (vO (((((AS kC kL ([(4:UInt8)])).2.1)[0]!).epoch) == (1:Int))) rfl (?_))))))))))))))
  have hb7666:(((((AS kC kL ([(4:UInt8)])).2.1)[0]!).epoch) == (1:Int))=true:=(by decide +kernel)
  rw [hb7666]
  refine AX rfl (AT 0 JO rfl (AX rfl (AV U3_ rfl (vI kZ.epoch) rfl hbn_bnc146_19 rfl (AX rfl (FK .i64 kZ.epoch (1:Int) rfl rfl (AA (BG (vO (kZ.epoch == (1:Int))) rfl rfl (AA (AG (vO (kZ.epoch == (1:Int))) rfl (?_))))))))))
  have hb7667:(kZ.epoch == (1:Int))=true:=(by decide +kernel)
  rw [hb7667]
  refine AX rfl (AT 1 KP rfl (AX rfl (AV U3_ rfl (vI kZ.threshold) rfl hbn_bnc146_19 rfl (AX rfl (FK .i64 kZ.threshold (1:Int) rfl rfl (AA (BG (vO (kZ.threshold == (1:Int))) rfl rfl (AA (AG (vO (kZ.threshold == (1:Int))) rfl (?_))))))))))
  have hb7668:(kZ.threshold == (1:Int))=true:=(by decide +kernel)
  rw [hb7668]
  refine AX rfl (AG (vrc146_20) rfl (AX rfl (DA U32_ DL .i64 (0:Int) 0 rfl rfl rfl hrdc146_20 (by decide +kernel) fun a7669 hp7670=>(AX rfl (BF 4 FR ((kW[0]!).data) rfl hp7670 (fun _ _ _ h=>FC h) fun a7671 hp7672=>(AX rfl (BR U23_ rfl rfl hp7672 fun v7673 hl7674=>(?_))))))))
  have:=hl7674.len_le
  refine AX rfl (QX U23_ U5_ U9_ rfl hl7674 (AX rfl (o_eqlS ((kW[0]!).data) ([7]:List UInt8) rfl rfl (AA (BG (vO (((kW[0]!).data) == ([7]:List UInt8))) rfl rfl (AA (AG (vO (((kW[0]!).data) == ([7]:List UInt8))) rfl (?_))))))))
  have hb7675:(((kW[0]!).data) == ([7]:List UInt8))=true:=(by decide +kernel)
  rw [hb7675]
  refine AX rfl (AG (v7647) rfl (AX rfl (CC U23_ rfl hl7648 (AX rfl (FK .i64 (((BS (kL.take 1) (((AS kC kL ([(4:UInt8)])).2.1).drop 2) ([(200:UInt8)])).1).length:Int) (2:Int) rfl rfl (AA (BG (vO ((((BS (kL.take 1) (((AS kC kL ([(4:UInt8)])).2.1).drop 2) ([(200:UInt8)])).1).length:Int) == (2:Int))) rfl rfl (AA (AD (vO ((((BS (kL.take 1) (((AS kC kL ([(4:UInt8)])).2.1).drop 2) ([(200:UInt8)])).1).length:Int) == (2:Int))) rfl (AF (AC (?_))))))))))))
  refine AL (AU rfl (CM rfl rfl rfl) (?_))
  have e:true=((((BS (kL.take 1) (((AS kC kL ([(4:UInt8)])).2.1).drop 2) ([(200:UInt8)])).1).length:Int) == (2:Int)):=by rfl
  exact ⟨_,rfl,s7643.keep,(by exact congrArg vO e.symm)⟩
open Go.Fw Go.RowKit
set_option maxHeartbeats 4000000 in
set_option maxRecDepth 100000 in
theorem c_few {O:List Nat} (c_cs:List Value) (c:Circle) (w:World) (h_c:Enc.circle.rd w O c_cs c) (hO:∀ b∈O,b<w.heap.size):CB Try.prog 61 [.agg c_cs.toArray] w (fun v _=>v = .bool (MS c)):= by
 have h_c:Enc.circle.rd w ([]++O) c_cs c:=h_c
 have s0:St w O w []:=St.start hO
 refine BI 39 Try.func61 rfl rfl oT (fun F0=>?_)
 refine AE (?_)
 refine AB kR (AA (DI (E:=Enc.circle) (vA c_cs.toArray) (c_cs) c rfl rfl h_c s0 fun a5016 w5017 s5018 m5019 k5020 hp5021=>(?_)))
 refine AA (AD (vO false) rfl (AF (AC (?_))))
 refine AE (?_)
 refine AE (?_)
 refine AB kR (AA (AD (vI 0) rfl (AF (AC (?_)))))
 refine BN (?_)
 refine DH (fun mI FI wI=>∃ (k:Nat),k≤c.recs.length∧MS c=EZ (fun k=>if RQ c k then some false else none) (decide ((c.guardians.length:Int)≤12) && decide ((c.recs.length:Int)≤20)) k (c.recs.length - k)∧mI=c.recs.length - k∧(∃ F1,FI=GP F1 [(1,vP (some a5016)),(3,vI ((k:Nat):Int)),(39,undef)])∧w5017=wI) (c.recs.length - (0)) ?_ ?_
 ·exact ⟨(0),oM,rfl,rfl,⟨_,BD _ ⟨rfl,(by rfl),rfl,trivial⟩⟩,rfl⟩
 ·rintro ml0 F wl0 ⟨k,hr0_0,hr0_1,hm0,⟨Fl0,rfl⟩,rfl⟩
  refine AE (?_)
  refine AE (?_)
  refine AB kR (AA (AG (vI ((k:Nat):Int)) rfl (AA (BF 4 DM (c.recs) rfl hp5021 (fun _ _ _ h=>CG h) fun a5022 hp5023=>(AA (BR U26_ rfl rfl hp5023 fun v5024 hl5025=>(?_)))))))
  have:=hl5025.len_le
  refine AA (CC U26_ rfl hl5025 (AA (DT .i64 ((k:Nat):Int) (c.recs.length:Int) rfl rfl (AF (AC (?_))))))
  refine AJ (decide (((k:Nat):Int)<(c.recs.length:Int))) rfl rfl (fun hc5026=>?_) (fun hc5026=>?_)
  ·have hp5027:((k:Nat):Int)<(c.recs.length:Int):=by simpa using hc5026
   refine AR (AC (?_))
   refine AE (?_)
   refine BN (?_)
   refine AE (?_)
   refine AB kR (AA (BF 4 DM (c.recs) rfl hp5021 (fun _ _ _ h=>CG h) fun a5028 hp5029=>(AA (BR U26_ rfl rfl hp5029 fun v5030 hl5031=>(?_)))))
   have:=hl5031.len_le
   refine AA (AG (vI ((k:Nat):Int)) rfl (AA (DA U26_ FV .i64 ((k:Nat):Int) k rfl rfl rfl hl5031 oM fun a5032 hp5033=>(AA (BF 3 OA ((c.recs[k]!).approved) rfl hp5033 (fun _ _ _ h=>IS h) fun a5034 hp5035=>(AA (BR U22_ rfl rfl hp5035 fun v5036 hl5037=>(?_))))))))
   have:=hl5037.len_le
   refine AA (CC U22_ rfl hl5037 (AA (HG .i64 (((c.recs[k]!).approved).length:Int) (20:Int) rfl rfl (AA (AG (vO (decide ((20:Int)<(((c.recs[k]!).approved).length:Int)))) rfl (?_))))))
   cases hb5038:(decide ((20:Int)<(((c.recs[k]!).approved).length:Int)))
   ·have hp5039:(((c.recs[k]!).approved).length:Int)≤(20:Int):=by simpa using hb5038
    refine AX rfl (BF 4 DM (c.recs) rfl hp5021 (fun _ _ _ h=>CG h) fun a5040 hp5041=>(AX rfl (BR U26_ rfl rfl hp5041 fun v5042 hl5043=>(?_))))
    have:=hl5043.len_le
    refine AX rfl (AG (vI ((k:Nat):Int)) rfl (AX rfl (DA U26_ FV .i64 ((k:Nat):Int) k rfl rfl rfl hl5043 oM fun a5044 hp5045=>(AX rfl (BF 4 SB ((c.recs[k]!).vetoed) rfl hp5045 (fun _ _ _ h=>FY h) fun a5046 hp5047=>(AX rfl (BR U22_ rfl rfl hp5047 fun v5048 hl5049=>(?_))))))))
    have:=hl5049.len_le
    refine AX rfl (CC U22_ rfl hl5049 (AX rfl (HG .i64 (((c.recs[k]!).vetoed).length:Int) (20:Int) rfl rfl (AA (BU (vO (decide ((20:Int)<(((c.recs[k]!).vetoed).length:Int)))) rfl rfl (AF (AC (?_))))))))
    refine AJ (decide ((20:Int)<(((c.recs[k]!).vetoed).length:Int))) rfl rfl (fun hc5050=>?_) (fun hc5050=>?_)
    ·have hp5051:(20:Int)<(((c.recs[k]!).vetoed).length:Int):=by simpa using hc5050
     refine AE (?_)
     refine AB kR (AA (AD (vO false) rfl (AF (AC (?_)))))
     refine AL (BV (AM (AM (BV (AM (AU rfl (CM rfl rfl rfl) (?_)))))))
     have e:(MS c)=false:=by (rw [hr0_1];exact DF oM (by ((repeat ((refine (if_pos ?_).trans ?_;solve|(simp only [RQ,dbs];(repeat (omega))))));rfl)))
     exact ⟨_,rfl,s5018.keep,(by exact congrArg vO e.symm)⟩
    ·have hp5052:(((c.recs[k]!).vetoed).length:Int)≤(20:Int):=by simpa using hc5050
     refine AR (CI (AC (?_)))
     refine AB kR (AA (AG (vI ((k:Nat):Int)) rfl (AA (DE .i64 ((k:Nat):Int) (1:Int) (((k+1:Nat):Int)) rfl rfl (GL oM oM) (AA (AD (vI ((k+1:Nat):Int)) rfl (AF (AC (?_)))))))))
     exact ⟨_,oM,(k+1),oM,(hr0_1.trans (GA oM (by ((repeat ((refine (if_neg ?_).trans ?_;solve|(simp only [RQ,dbs];(repeat (omega))))));rfl)))),rfl,⟨_,BD _ ⟨rfl,(by rfl),rfl,trivial⟩⟩,rfl⟩
   ·have hp5053:(20:Int)<(((c.recs[k]!).approved).length:Int):=by simpa using hb5038
    refine AO rfl (AO rfl (AO rfl (AO rfl (AO rfl (AO rfl (AO rfl (AO rfl (AA (BG (vO true) rfl rfl (AF (AC (?_))))))))))))
    refine AJ true rfl rfl (fun _=>?_) (fun h=>by cases h)
    refine AE (?_)
    refine AB kR (AA (AD (vO false) rfl (AF (AC (?_)))))
    refine AL (BV (AM (AM (BV (AM (AU rfl (CM rfl rfl rfl) (?_)))))))
    have e:(MS c)=false:=by (rw [hr0_1];exact DF oM (by ((repeat ((refine (if_pos ?_).trans ?_;solve|(simp only [RQ,dbs];(repeat (omega))))));rfl)))
    exact ⟨_,rfl,s5018.keep,(by exact congrArg vO e.symm)⟩
  ·have hp5054:(c.recs.length:Int)≤((k:Nat):Int):=by simpa using hc5026
   refine DG (CD (CD (CY (AC (?_)))))
   refine AE (?_)
   refine AB kR (AA (BF 3 KN (c.guardians) rfl hp5021 (fun _ _ _ h=>ER h) fun a5055 hp5056=>(AA (BR U22_ rfl rfl hp5056 fun v5057 hl5058=>(?_)))))
   have:=hl5058.len_le
   refine AA (CC U22_ rfl hl5058 (AA (o_leq .i64 (c.guardians.length:Int) (12:Int) rfl rfl (AA (AG (vO (decide ((c.guardians.length:Int)≤(12:Int)))) rfl (?_))))))
   cases hb5059:(decide ((c.guardians.length:Int)≤(12:Int)))
   ·have hp5060:(12:Int)<(c.guardians.length:Int):=by simpa using hb5059
    refine AO rfl (AO rfl (AO rfl (AO rfl (AA (BU (vO false) rfl rfl (AA (AD (vO false) rfl (AF (AC (?_))))))))))
    refine AL (AU rfl (CM rfl rfl rfl) (?_))
    have e:(MS c)=false:=by (rw [hr0_1,GV oM];simp [*])
    exact ⟨_,rfl,s5018.keep,(by exact congrArg vO e.symm)⟩
   ·have hp5061:(c.guardians.length:Int)≤(12:Int):=by simpa using hb5059
    refine AX rfl (BF 4 DM (c.recs) rfl hp5021 (fun _ _ _ h=>CG h) fun a5062 hp5063=>(AX rfl (BR U26_ rfl rfl hp5063 fun v5064 hl5065=>(?_))))
    have:=hl5065.len_le
    refine AX rfl (CC U26_ rfl hl5065 (AX rfl (o_leq .i64 (c.recs.length:Int) (20:Int) rfl rfl (AA (BG (vO (decide ((c.recs.length:Int)≤(20:Int)))) rfl rfl (AA (AD (vO (decide ((c.recs.length:Int)≤(20:Int)))) rfl (AF (AC (?_))))))))))
    refine AL (AU rfl (CM rfl rfl rfl) (?_))
    have e:(MS c)=(decide ((c.recs.length:Int)≤(20:Int))):=by (rw [hr0_1,GV oM];simp [*])
    exact ⟨_,rfl,s5018.keep,(by exact congrArg vO e.symm)⟩
open Go.Fw Go.RowKit
set_option maxHeartbeats 4000000 in
set_option maxRecDepth 100000 in
theorem c_few8 {O:List Nat} (l_v:Value) (l:List Share) (w:World) (h_l:BB Enc.share w O l_v l) (hO:∀ b∈O,b<w.heap.size):CB Try.prog 21 [l_v] w (fun v _=>v = .bool (OW l)):= by
 have lim_l:=h_l.len_le
 have h_l:BB Enc.share w ([]++O) l_v l:=h_l
 have s0:St w O w []:=St.start hO
 refine BI 20 Try.func21 rfl rfl oT (fun F0=>?_)
 refine AE (?_)
 refine AB kR (AA (AD (vO false) rfl (AF (AC (?_)))))
 refine AE (?_)
 refine AE (?_)
 refine AB kR (AA (AD (vI 0) rfl (AF (AC (?_)))))
 refine BN (?_)
 refine DH (fun mI FI wI=>∃ (k:Nat),k≤l.length∧OW l=EZ (fun k=>if 70<(l[k]!.data.length:Int) then some false else none) (decide ((l.length:Int)≤10)) k (l.length - k)∧mI=l.length - k∧(∃ F1,FI=GP F1 [(0,l_v),(3,vI ((k:Nat):Int)),(20,undef)])∧w=wI) (l.length - (0)) ?_ ?_
 ·exact ⟨(0),oM,rfl,rfl,⟨_,BD _ ⟨rfl,(by rfl),rfl,trivial⟩⟩,rfl⟩
 ·rintro ml0 F wl0 ⟨k,hr0_0,hr0_1,hm0,⟨Fl0,rfl⟩,rfl⟩
  refine AE (?_)
  refine AE (?_)
  refine AB kR (AA (AG (vI ((k:Nat):Int)) rfl (AA (AG (l_v) rfl (AA (CC U32_ rfl h_l (AA (DT .i64 ((k:Nat):Int) (l.length:Int) rfl rfl (AF (AC (?_)))))))))))
  refine AJ (decide (((k:Nat):Int)<(l.length:Int))) rfl rfl (fun hc1271=>?_) (fun hc1271=>?_)
  ·have hp1272:((k:Nat):Int)<(l.length:Int):=by simpa using hc1271
   refine AR (AC (?_))
   refine AE (?_)
   refine BN (?_)
   refine AE (?_)
   refine AB kR (AA (AG (l_v) rfl (AA (AG (vI ((k:Nat):Int)) rfl (AA (DA U32_ DL .i64 ((k:Nat):Int) k rfl rfl rfl h_l oM fun a1273 hp1274=>(AA (BF 4 FR ((l[k]!).data) rfl hp1274 (fun _ _ _ h=>FC h) fun a1275 hp1276=>(AA (BR U23_ rfl rfl hp1276 fun v1277 hl1278=>(?_)))))))))))
   have:=hl1278.len_le
   refine AA (CC U23_ rfl hl1278 (AA (HG .i64 (((l[k]!).data).length:Int) (70:Int) rfl rfl (AF (AC (?_))))))
   refine AJ (decide ((70:Int)<(((l[k]!).data).length:Int))) rfl rfl (fun hc1279=>?_) (fun hc1279=>?_)
   ·have hp1280:(70:Int)<(((l[k]!).data).length:Int):=by simpa using hc1279
    refine AE (?_)
    refine AB kR (AA (AD (vO false) rfl (AF (AC (?_)))))
    refine AL (BV (AM (AM (BV (AM (AU rfl (CM rfl rfl rfl) (?_)))))))
    have e:(OW l)=false:=by (rw [hr0_1];exact DF oM (by ((repeat ((refine (if_pos ?_).trans ?_;omega)));rfl)))
    exact ⟨_,rfl,s0.keep,(by exact congrArg vO e.symm)⟩
   ·have hp1281:(((l[k]!).data).length:Int)≤(70:Int):=by simpa using hc1279
    refine AR (CI (AC (?_)))
    refine AB kR (AA (AG (vI ((k:Nat):Int)) rfl (AA (DE .i64 ((k:Nat):Int) (1:Int) (((k+1:Nat):Int)) rfl rfl (GL oM oM) (AA (AD (vI ((k+1:Nat):Int)) rfl (AF (AC (?_)))))))))
    exact ⟨_,oM,(k+1),oM,(hr0_1.trans (GA oM (by ((repeat ((refine (if_neg ?_).trans ?_;omega)));rfl)))),rfl,⟨_,BD _ ⟨rfl,(by rfl),rfl,trivial⟩⟩,rfl⟩
  ·have hp1282:(l.length:Int)≤((k:Nat):Int):=by simpa using hc1271
   refine DG (CD (CD (CY (AC (?_)))))
   refine AE (?_)
   refine AB kR (AA (AG (l_v) rfl (AA (CC U32_ rfl h_l (AA (o_leq .i64 (l.length:Int) (10:Int) rfl rfl (AA (AD (vO (decide ((l.length:Int)≤(10:Int)))) rfl (AF (AC (?_)))))))))))
   refine AL (AU rfl (CM rfl rfl rfl) (?_))
   have e:(OW l)=(decide ((l.length:Int)≤(10:Int))):=by (rw [hr0_1];exact GV oM)
   exact ⟨_,rfl,s0.keep,(by exact congrArg vO e.symm)⟩
open Go.Fw Go.RowKit
set_option maxHeartbeats 4000000 in
set_option maxRecDepth 100000 in
theorem c_few46 {O:List Nat} (c_cs:List Value) (c:Circle) (l_v:Value) (l:List Share) (w:World) (h_c:Enc.circle.rd w O c_cs c) (h_l:BB Enc.share w O l_v l) (hO:∀ b∈O,b<w.heap.size):CB Try.prog 23 [.agg c_cs.toArray,l_v] w (fun v _=>v = .bool (MS c && OW l)):= by
 have h_c:Enc.circle.rd w ([]++O) c_cs c:=h_c
 have lim_l:=h_l.len_le
 have h_l:BB Enc.share w ([]++O) l_v l:=h_l
 have s0:St w O w []:=St.start hO
 refine BI 11 Try.func23 rfl rfl oT (fun F0=>?_)
 refine AE (?_)
 refine AB kR (AA (DI (E:=Enc.circle) (vA c_cs.toArray) (c_cs) c rfl rfl h_c s0 fun a7911 w7912 s7913 m7914 k7915 hp7916=>(?_)))
 have h_l:=h_l.mv m7914
 refine AA (AD (vO false) rfl (AF (AC (?_))))
 refine AE (?_)
 refine AB kR (AA (CO U28_ rfl BJ rfl hp7916 fun cs7917 hs7918=>(AA (AZ (vs:=[vA cs7917.toArray]) enter_61 (c_few (O:=[]++O) cs7917 c w7912 hs7918 s7913.lt) rfl s7913 fun v7919 w7920 s7921 m7922 k7923 r7924=>(?_)))))
 obtain rfl:=r7924
 have h_l:=h_l.mv m7922
 refine AA (AG (vO (MS c)) rfl (?_))
 cases hb7925:(MS c)
 ·have hp7926:(MS c)=false:=by simpa using hb7925
  refine AO rfl (AO rfl (AA (BU (vO false) rfl rfl (AA (AD (vO false) rfl (AF (AC (?_))))))))
  refine AL (AU rfl (CM rfl rfl rfl) (?_))
  have e:(MS c && OW l)=false:=by simp [*]
  exact ⟨_,rfl,s7921.keep,(by rfl)⟩
 ·have hp7927:(MS c)=true:=by simpa using hb7925
  refine AX rfl (AG (l_v) rfl (AX rfl (AZ (vs:=[l_v]) enter_21 (c_few8 (O:=[]++O) l_v l w7920 h_l s7921.lt) rfl s7921 fun v7928 w7929 s7930 m7931 k7932 r7933=>(?_))))
  obtain rfl:=r7933
  refine AA (BG (vO (OW l)) rfl rfl (AA (AD (vO (OW l)) rfl (AF (AC (?_))))))
  refine AL (AU rfl (CM rfl rfl rfl) (?_))
  have e:(MS c && OW l)=(OW l):=by simp [*]
  exact ⟨_,rfl,s7930.keep,(by rfl)⟩
open Go.Fw
theorem join_none {l:List Share} (h:(CF l).2≠0):(CF l).1=[]:=by
  unfold CF at h ⊢
  split
  · rfl
  · split
    · rfl
    · rename_i h1 h2;rw [if_neg h1,if_neg h2] at h;exact absurd rfl h
theorem join_ok {l:List Share} (h:(CF l).2=0):BH l=0∧l[0]!.threshold≤(l.length:Int)∧(CF l).1.length=l[0]!.data.length:=by
  have hc:BH l=0:=by
    by_cases c:BH l=0
    · exact c
    · rw [UG c rfl] at h;exact h
  have ht:l[0]!.threshold≤(l.length:Int):=by
    by_cases c:l[0]!.threshold≤(l.length:Int)
    · exact c
    · rw [PV hc (by omega) rfl] at h;cases h
  refine ⟨hc,ht,?_⟩
  rw [SY hc ht rfl]
  have:=((EV l).1 hc).t1
  show (joinL (l.take l[0]!.threshold.toNat)).length=_
  unfold joinL
  rw [List.length_map,List.length_range,take0 (by omega)]
section
variable {c x:Circle} {no:Int} {l m:List Share} {secret more next:List UInt8} {others:List Int} {t:Int}
theorem rest_ok (h:(BE c no l).2=0):AN c=0∧0≤no∧no<(c.recs.length:Int)∧c.recs[no.toNat]!.state=1∧BX c l=0∧BE c no l=CF l:=by
  have hc:AN c=0:=by
    by_cases q:AN c=0
    · exact q
    · rw [rest_1 q] at h;exact absurd h q
  have hn:0≤no∧no<(c.recs.length:Int):=by
    by_cases q:no<0∨(c.recs.length:Int)≤no
    · rw [PW hc q] at h;cases h
    · omega
  have h2:c.recs[no.toNat]!.state≠2:=fun q=>by rw [rest_3 hc hn.1 hn.2 q] at h;cases h
  have h0:c.recs[no.toNat]!.state≠0:=fun q=>by rw [rest_4 hc hn.1 hn.2 q] at h;cases h
  have hb:BX c l=0:=by
    by_cases q:BX c l=0
    · exact q
    · rw [SG hc hn.1 hn.2 h2 h0 q] at h;exact absurd h q
  have hs:=EP (KO hc (k:=no.toNat) (by omega))
  exact ⟨hc,hn.1,hn.2,by omega,hb,RZ hc hn.1 hn.2 h2 h0 hb⟩
theorem rest_none (h:(BE c no l).2≠0):(BE c no l).1=[]:=by
  by_cases q:AN c=0
  · by_cases q2:no<0∨(c.recs.length:Int)≤no
    · rw [PW q q2]
    · have h0:0≤no:=by omega
      have h1:no<(c.recs.length:Int):=by omega
      by_cases q3:c.recs[no.toNat]!.state=2
      · rw [rest_3 q h0 h1 q3]
      · by_cases q4:c.recs[no.toNat]!.state=0
        · rw [rest_4 q h0 h1 q4]
        · by_cases q5:BX c l=0
          · rw [RZ q h0 h1 q3 q4 q5] at h ⊢;exact join_none h
          · rw [SG q h0 h1 q3 q4 q5]
  · rw [rest_1 q]
structure Needs (c:Circle) (no:Int) (l:List Share):Prop where
  ck:AN c=0
  n0:0≤no
  n1:no<(c.recs.length:Int)
  st:c.recs[no.toNat]!.state=1
  few:c.threshold≤(l.length:Int)
  all:∀ k,k<l.length→l[k]!.epoch=c.epoch∧l[k]!.threshold=c.threshold∧l[k]!.many=(c.guardians.length:Int)∧l[k]!.data.length=(BE c no l).1.length
  jn:CF l=((BE c no l).1,0)
theorem needs_of (h:(BE c no l).2=0):Needs c no l:=by
  obtain ⟨h1,h2,h3,h4,h5,h6⟩:=rest_ok h
  have hb:=belong_ok h5
  rw [h6] at h
  have hj:=join_ok h
  have hp:=hb.1.pos
  refine ⟨h1,h2,h3,h4,by rw [← (hb.2 0 hp).2.1];exact hj.2.1,fun k hk=>⟨(hb.2 k hk).1,(hb.2 k hk).2.1,(hb.2 k hk).2.2,by rw [h6,hj.2.2];exact hb.1.da k hk⟩,?_⟩
  rw [h6];exact Prod.ext rfl h
structure KeptI (secret:List UInt8) (no:Int) (x:Circle) (m:List Share):Prop where
  held:Held secret x m
  n0:0≤no
  n1:no<(x.recs.length:Int)
  st:x.recs[no.toNat]!.state=1
theorem KeptI.few (h:KeptI secret no x m) (mask:UInt8) (hx:((FD m mask m.length).length:Int)<x.threshold):BE x no (FD m mask m.length)=([],80):=held_few h.held mask hx h.n0 h.n1 h.st
structure OldC (c:Circle) (l:List Share) (x:Circle):Prop where
  ok:AN x=0
  ep:x.epoch=c.epoch+1
  bel:BX x l=460
theorem OldC.r2 (h:OldC c l x) (others:List Int) (t:Int) (next:List UInt8):(AP x l others t next).2.2=460:=by rw [NI h.ok (by rw [h.bel];decide),h.bel]
end
open Go.Fw Go.RowKit
set_option maxHeartbeats 4000000 in
set_option maxRecDepth 100000 in
theorem RO {O:List Nat} (c_cs:List Value) (c:Circle) (no:Int) (l_v:Value) (l:List Share) (w:World) (h_c:Enc.circle.rd w O c_cs c) (h_l:BB Enc.share w O l_v l) (hO:∀ b∈O,b<w.heap.size):CB Try.prog 8 [.agg c_cs.toArray,vI no,l_v] w (fun v _=>v = .bool (true)):= by
 have h_c:Enc.circle.rd w ([]++O) c_cs c:=h_c
 have lim_l:=h_l.len_le
 have h_l:BB Enc.share w ([]++O) l_v l:=h_l
 have s0:St w O w []:=St.start hO
 refine BI 110 Try.func8 rfl rfl oT (fun F0=>?_)
 refine AE (?_)
 refine AB kR (AA (DI (E:=Enc.circle) (vA c_cs.toArray) (c_cs) c rfl rfl h_c s0 fun a7978 w7979 s7980 m7981 k7982 hp7983=>(?_)))
 have h_l:=h_l.mv m7981
 refine AA (AD (vO false) rfl (AF (AC (?_))))
 refine AE (?_)
 refine AE (?_)
 refine AB kR (AA (AZ (vs:=[]) enter_20 (c_sane46 (O:=[]++O) w7979 s7980.lt) rfl s7980 fun v7984 w7985 s7986 m7987 k7988 r7989=>(?_)))
 obtain rfl:=r7989
 have h_l:=h_l.mv m7987
 have hp7983:=hp7983.mv m7987
 refine AA (GR true rfl (AF (AC (?_))))
 refine AJ false rfl rfl (fun h=>by cases h) (fun _=>?_)
 refine AR (AC (?_))
 refine AE (?_)
 refine AE (?_)
 refine AB kR (AA (CO U28_ rfl BJ rfl hp7983 fun cs7990 hs7991=>(AA (AG (l_v) rfl (AA (AZ (vs:=[vA cs7990.toArray,l_v]) enter_23 (c_few46 (O:=[]++O) cs7990 c l_v l w7985 hs7991 h_l s7986.lt) rfl s7986 fun v7992 w7993 s7994 m7995 k7996 r7997=>(?_)))))))
 obtain rfl:=r7997
 have h_l:=h_l.mv m7995
 have hp7983:=hp7983.mv m7995
 refine AA (GR (MS c && OW l) rfl (AF (AC (?_))))
 refine AJ (!(MS c && OW l)) rfl rfl (fun hc7998=>?_) (fun hc7998=>?_)
 ·have hp7999:(MS c && OW l)=false:=by (have e:=hc7998;rw [Bool.not_eq_true'] at e;exact e)
  refine AE (?_)
  refine AB kR (AA (AD (vO true) rfl (AF (AC (?_)))))
  refine AL (AM (AU rfl (CM rfl rfl rfl) (?_)))
  exact ⟨_,rfl,s7994.keep,rfl⟩
 ·have hp8000:(MS c && OW l)=true:=by simpa using hc7998
  refine AR (AC (?_))
  refine AE (?_)
  refine AB kR (AA (CO U28_ rfl BJ rfl hp7983 fun cs8001 hs8002=>(AA (AG (vI no) rfl (AA (AG (l_v) rfl (AA (AZ (vs:=[vA cs8001.toArray,vI no,l_v]) MN (RV (O:=[]++O) cs8001 c no l_v l w7993 hs8002 h_l s7994.lt) rfl s7994 fun v8003 w8004 s8005 m8006 k8007 r8008=>(?_)))))))))
  obtain ⟨x8009,rfl,hl8010⟩:=r8008
  have:=hl8010.len_le
  have h_l:=h_l.mv m8006
  have hp7983:=hp7983.mv m8006
  refine AA (AG (vT #[x8009,vI ((BE c no l).2)]) rfl (AA (AK (x8009) rfl rfl (AA (AK (vI ((BE c no l).2)) rfl rfl (AA (AD (x8009) rfl (AA (AD (vI ((BE c no l).2)) rfl (AF (AC (?_))))))))))))
  refine AE (?_)
  refine AE (?_)
  refine AB kR (AA (AG (vI ((BE c no l).2)) rfl (AA (CP .i64 ((BE c no l).2) (0:Int) rfl rfl (AF (AC (?_)))))))
  refine AJ (((BE c no l).2) != (0:Int)) rfl rfl (fun hc8011=>?_) (fun hc8011=>?_)
  ·have hp8012:(BE c no l).2≠(0:Int):=by simpa using hc8011
   refine AE (?_)
   refine AB kR (AA (AG (x8009) rfl (AA (CC U23_ rfl hl8010 (AA (FK .i64 (((BE c no l).1).length:Int) (0:Int) rfl rfl (AA (AD (vO ((((BE c no l).1).length:Int) == (0:Int))) rfl (AF (AC (?_)))))))))))
   refine AL (AM (AU rfl (CM rfl rfl rfl) (?_)))
   have e:true=((((BE c no l).1).length:Int) == (0:Int)):=by (rw [rest_none aS];rfl)
   exact ⟨_,rfl,s8005.keep,(by exact congrArg vO e.symm)⟩
  ·have hp8013:(BE c no l).2=(0:Int):=by simpa using hc8011
   have hnd:=needs_of hp8013
   have hn0:=hnd.n0
   have hn1:=hnd.n1
   refine AR (AC (?_))
   refine AE (?_)
   refine AE (?_)
   refine AB kR (AA (CO U28_ rfl BJ rfl hp7983 fun cs8014 hs8015=>(AA (AZ (vs:=[vA cs8014.toArray]) JR (LT (O:=[]++O) cs8014 c w8004 hs8015 s8005.lt) rfl s8005 fun v8016 w8017 s8018 m8019 k8020 r8021=>(?_)))))
   obtain rfl:=r8021
   have h_l:=h_l.mv m8019
   have hp7983:=hp7983.mv m8019
   have hl8010:=hl8010.mv m8019
   refine AA (CP .i64 (AN c) (0:Int) rfl rfl (AA (AG (vO ((AN c) != (0:Int))) rfl (?_))))
   have hb8022:((AN c) != (0:Int))=false:=(by rw [hnd.ck];rfl)
   rw [hb8022]
   refine AX rfl (AG (vI no) rfl (AX rfl (DT .i64 no (0:Int) rfl rfl (AA (BU (vO (decide (no<(0:Int)))) rfl rfl (AA (AG (vO (decide (no<(0:Int)))) rfl (?_))))))))
   have hb8023:(decide (no<(0:Int)))=false:=(decide_eq_false oM)
   rw [hb8023]
   refine AX rfl (AG (vI no) rfl (AX rfl (BF 4 DM (c.recs) rfl hp7983 (fun _ _ _ h=>CG h) fun a8024 hp8025=>(AX rfl (BR U26_ rfl rfl hp8025 fun v8026 hl8027=>(?_))))))
   have:=hl8027.len_le
   refine AX rfl (CC U26_ rfl hl8027 (AX rfl (IU .i64 no (c.recs.length:Int) rfl rfl (AA (BU (vO (decide ((c.recs.length:Int)≤no))) rfl rfl (AA (AG (vO (decide ((c.recs.length:Int)≤no))) rfl (?_))))))))
   have hb8028:(decide ((c.recs.length:Int)≤no))=false:=(decide_eq_false oM)
   rw [hb8028]
   refine AX rfl (BF 4 DM (c.recs) rfl hp7983 (fun _ _ _ h=>CG h) fun a8029 hp8030=>(AX rfl (BR U26_ rfl rfl hp8030 fun v8031 hl8032=>(?_))))
   have:=hl8032.len_le
   refine AX rfl (AG (vI no) rfl (AX rfl (DA U26_ FV .i64 no no.toNat rfl rfl oM hl8032 oM fun a8033 hp8034=>(AX rfl (BF 2 JT ((c.recs[no.toNat]!).state) rfl hp8034 (fun _ _ _ h=>FW h) fun a8035 hp8036=>(AX rfl (CA U3_ rfl rfl hp8036 (AX rfl (CP .i64 ((c.recs[no.toNat]!).state) (1:Int) rfl rfl (AA (BU (vO (((c.recs[no.toNat]!).state) != (1:Int))) rfl rfl (AA (AG (vO (((c.recs[no.toNat]!).state) != (1:Int))) rfl (?_))))))))))))))
   have hb8037:(((c.recs[no.toNat]!).state) != (1:Int))=false:=(by rw [hnd.st];rfl)
   rw [hb8037]
   refine AX rfl (AG (l_v) rfl (AX rfl (CC U32_ rfl h_l (AX rfl (BF 1 KP (c.threshold) rfl hp7983 (fun _ _ _ h=>FE h) fun a8038 hp8039=>(AX rfl (CA U3_ rfl rfl hp8039 (AX rfl (DT .i64 (l.length:Int) c.threshold rfl rfl (AA (BU (vO (decide ((l.length:Int)<c.threshold))) rfl rfl (AF (AC (?_))))))))))))))
   have hb8040:(decide ((l.length:Int)<c.threshold))=false:=(decide_eq_false (by have:=hnd.few;omega))
   rw [hb8040]
   refine AJ false rfl rfl (fun h=>by cases h) (fun _=>?_)
   refine AR (AC (?_))
   refine AE (?_)
   refine AE (?_)
   refine AB kR (AA (AG (l_v) rfl (AA (CC U32_ rfl h_l (AA (AG (vI 0) rfl (AF (AC (?_)))))))))
   refine BN (?_)
   refine DH (fun mI FI wI=>∃ (k:Nat) (B:List Nat),k≤l.length∧mI=l.length - k∧(∃ F1,FI=GP F1 [(2,l_v),(3,vP (some a7978)),(7,x8009),(61,l_v),(62,vI (l.length:Int)),(63,vI ((k:Nat):Int)),(110,undef)])∧St w O wI B∧BB Enc.share wI (B++O) (l_v) (l)∧PT Enc.circle wI (B++O) (.pointer (some a7978)) (c)∧BB Enc.u8 wI (B++O) (x8009) ((BE c no l).1)) (l.length - (0)) ?_ ?_
   ·exact ⟨(0),[],oM,rfl,⟨_,BD _ ⟨rfl,rfl,rfl,rfl,rfl,(by rfl),rfl,trivial⟩⟩,s8018,h_l,hp7983,hl8010⟩
   ·intro ml0 F wl0 hI
    clear h_l hp7983 hl8010
    obtain ⟨k,Bl0,hr0_0,hm0,⟨Fl0,rfl⟩,sl0,h_l,hp7983,hl8010⟩:=hI
    refine AE (?_)
    refine AB kR (AA (DT .i64 ((k:Nat):Int) (l.length:Int) rfl rfl (AF (AC (?_)))))
    refine AE (?_)
    refine AJ (decide (((k:Nat):Int)<(l.length:Int))) rfl rfl (fun hc8041=>?_) (fun hc8041=>?_)
    ·have hp8042:((k:Nat):Int)<(l.length:Int):=by simpa using hc8041
     refine AR (AC (?_))
     refine AE (?_)
     refine BN (?_)
     refine AE (?_)
     refine AB kR (AA (DA U32_ DL .i64 ((k:Nat):Int) k rfl rfl rfl h_l oM fun a8043 hp8044=>(AA (CO U70_ rfl DL rfl hp8044 fun cs8045 hs8046=>(AA (CU [vI 0,vI 0,vI 0,vI 0,nS] NJ rfl sl0 fun b8047 w8048 e8053 s8049 m8050 k8051 bx8052=>(?_)))))))
     clear e8053
     have h_l:=h_l.mv m8050
     have hp7983:=hp7983.mv m8050
     have hl8010:=hl8010.mv m8050
     have hs8046:Enc.share.rd w8048 ((b8047 :: Bl0)++O) cs8045 (l[k]!):=Enc.mv Enc.share (x:=l[k]!) hs8046 m8050
     obtain ⟨d8059,rfl,hd8060⟩:=hs8046
     have:=hd8060.len_le
     refine BW (BC (vs:=[vI ((l[k]!).epoch),vI ((l[k]!).index),vI ((l[k]!).threshold),vI ((l[k]!).many),d8059]) (.agg #[vI ((l[k]!).epoch),vI ((l[k]!).index),vI ((l[k]!).threshold),vI ((l[k]!).many),d8059]) rfl rfl rfl DL (fun u hu=>by simp only [List.mem_cons,List.not_mem_nil,or_false] at hu;rcases hu with rfl|rfl|rfl|rfl|rfl <;> first|rfl|exact hd8060.oneCell) (by repeat (constructor)) bx8052 oT s8049 fun w8054 s8055 m8056 k8057 bx8058=>(?_))
     have h_l:=h_l.mv m8056
     have hp7983:=hp7983.mv m8056
     have hl8010:=hl8010.mv m8056
     have hd8060:=hd8060.mv m8056
     refine AF (AC (?_))
     refine AE (?_)
     refine AB kR (AA (AT 0 HN rfl (AA (AV U3_ rfl (vI ((l[k]!).epoch)) rfl bx8058 rfl (AA (BF 0 JO (c.epoch) rfl hp7983 (fun _ _ _ h=>GU h) fun a8061 hp8062=>(AA (CA U3_ rfl rfl hp8062 (AA (CP .i64 ((l[k]!).epoch) c.epoch rfl rfl (AA (AG (vO (((l[k]!).epoch) != c.epoch)) rfl (?_)))))))))))))
     have hb8063:(((l[k]!).epoch) != c.epoch)=false:=(by rw [(hnd.all k oM).1];simp)
     rw [hb8063]
     refine AX rfl (AT 2 IQ rfl (AX rfl (AV U3_ rfl (vI ((l[k]!).threshold)) rfl bx8058 rfl (AX rfl (BF 1 KP (c.threshold) rfl hp7983 (fun _ _ _ h=>FE h) fun a8064 hp8065=>(AX rfl (CA U3_ rfl rfl hp8065 (AX rfl (CP .i64 ((l[k]!).threshold) c.threshold rfl rfl (AA (BU (vO (((l[k]!).threshold) != c.threshold)) rfl rfl (AA (AG (vO (((l[k]!).threshold) != c.threshold)) rfl (?_))))))))))))))
     have hb8066:(((l[k]!).threshold) != c.threshold)=false:=(by rw [(hnd.all k oM).2.1];simp)
     rw [hb8066]
     refine AX rfl (AT 3 IR rfl (AX rfl (AV U3_ rfl (vI ((l[k]!).many)) rfl bx8058 rfl (AX rfl (BF 3 KN (c.guardians) rfl hp7983 (fun _ _ _ h=>ER h) fun a8067 hp8068=>(AX rfl (BR U22_ rfl rfl hp8068 fun v8069 hl8070=>(?_))))))))
     have:=hl8070.len_le
     refine AX rfl (CC U22_ rfl hl8070 (AX rfl (CP .i64 ((l[k]!).many) (c.guardians.length:Int) rfl rfl (AA (BU (vO (((l[k]!).many) != (c.guardians.length:Int))) rfl rfl (AA (AG (vO (((l[k]!).many) != (c.guardians.length:Int))) rfl (?_))))))))
     have hb8071:(((l[k]!).many) != (c.guardians.length:Int))=false:=(by rw [(hnd.all k oM).2.2.1];simp)
     rw [hb8071]
     refine AX rfl (AT 4 FR rfl (AX rfl (AV U23_ rfl (d8059) rfl bx8058 rfl (AX rfl (CC U23_ rfl hd8060 (AX rfl (AG (x8009) rfl (AX rfl (CC U23_ rfl hl8010 (AX rfl (CP .i64 (((l[k]!).data).length:Int) (((BE c no l).1).length:Int) rfl rfl (AA (BU (vO ((((l[k]!).data).length:Int) != (((BE c no l).1).length:Int))) rfl rfl (AF (AC (?_))))))))))))))))
     have hb8072:((((l[k]!).data).length:Int) != (((BE c no l).1).length:Int))=false:=(by rw [(hnd.all k oM).2.2.2];simp)
     rw [hb8072]
     refine AJ false rfl rfl (fun h=>by cases h) (fun _=>?_)
     refine AR (CI (AC (?_)))
     refine AB kR (AA (DE .i64 ((k:Nat):Int) (1:Int) (((k+1:Nat):Int)) rfl rfl (GL oM oM) (AA (AG (vI ((k+1:Nat):Int)) rfl (AF (AC (?_)))))))
     exact ⟨_,oM,(k+1),(b8047 :: Bl0),oM,rfl,⟨_,BD _ ⟨rfl,rfl,rfl,rfl,rfl,(by rfl),rfl,trivial⟩⟩,s8055,h_l,hp7983,hl8010⟩
    ·have hp8073:(l.length:Int)≤((k:Nat):Int):=by simpa using hc8041
     refine DG (CD (CD (CY (AC (?_)))))
     refine AE (?_)
     refine AB kR (AA (AG (l_v) rfl (AA (AZ (vs:=[l_v]) RT (c_join (O:=Bl0++O) l_v l wl0 h_l sl0.lt) rfl sl0 fun v8074 w8075 s8076 m8077 k8078 r8079=>(?_)))))
     obtain ⟨x8080,rfl,hl8081⟩:=r8079
     have:=hl8081.len_le
     have hl8010:=hl8010.mv m8077
     refine AA (AG (vT #[x8080,vI ((CF l).2)]) rfl (AA (AK (x8080) rfl rfl (AA (AK (vI ((CF l).2)) rfl rfl (AA (AD (x8080) rfl (AA (AD (vI ((CF l).2)) rfl (AF (AC (?_))))))))))))
     refine AE (?_)
     refine AB kR (AA (AG (vI ((CF l).2)) rfl (AA (FK .i64 ((CF l).2) (0:Int) rfl rfl (AA (AG (vO (((CF l).2) == (0:Int))) rfl (?_)))))))
     have hb8082:(((CF l).2) == (0:Int))=true:=(by rw [hnd.jn];rfl)
     rw [hb8082]
     refine AX rfl (AG (x8080) rfl (AX rfl (QX U23_ U5_ U9_ rfl hl8081 (AX rfl (AG (x8009) rfl (AX rfl (QX U23_ U5_ U9_ rfl hl8010 (AX rfl (o_eqlS ((CF l).1) ((BE c no l).1) rfl rfl (AA (BG (vO (((CF l).1) == ((BE c no l).1))) rfl rfl (AA (AD (vO (((CF l).1) == ((BE c no l).1))) rfl (AF (AC (?_))))))))))))))))
     refine AL (AU rfl (CM rfl rfl rfl) (?_))
     have e:true=(((CF l).1) == ((BE c no l).1)):=by (rw [hnd.jn];simp)
     exact ⟨_,rfl,s8076.keep,(by exact congrArg vO e.symm)⟩
end Go.Proofs.Ytjgfokolnkhafaa
