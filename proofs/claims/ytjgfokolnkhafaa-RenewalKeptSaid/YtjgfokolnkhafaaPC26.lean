/- What the laws of this part rest on: lemmas, and the walks of the functions. No conditions. -/
import Derived.WalkKit
import Derived.WalkSpells
import Derived.WalkLawsBesides
import Derived.RangeFuncLeaves
import Derived.Maps.AppendAt
import Derived.Deep.AppendLies
import Derived.Deep.Slices
import Derived.OpenShut
import Derived.ProofKit
import Derived.Below
import Derived.ChangeSame
import Derived.Carry
import Derived.RangeFuncRecord
import Derived.Laws.Tables
import Derived.Recover
import Derived.DefersIn
import Derived.Lib.AppendZerosOnto
import Derived.Lib.Overlaps
import Derived.Laws.CopyRow
import Derived.Laws.StructEq
import Derived.ChangeKeysEq
import Derived.OrdersIn
import Derived.Test.YtjgfokolnkhafaaRows
import Derived.Test.YtjgfokolnkhafaaPC25
set_option linter.unusedSimpArgs false
set_option linter.unusedVariables false
namespace Go.Proofs.Ytjgfokolnkhafaa
open Go.Fw Go.RowKit
def kC:Circle:=(KO [3,5,8] 2 0).1
def kL:List Share:=(CM kC [7] [9]).1
def kX:Circle:=(AR kC kL [4]).1
def kA:Circle:=(AU kC 1).1
def ND:Circle:=(BN kA (AU kC 1).2.1 (AZ kA 3)).1
def MT:Circle:=(BN ND (AU kC 1).2.1 (AZ ND 8)).1
def CU:Circle:=(BN MT (AU kC 1).2.1 (AW MT 1)).1
def kZ:Circle:=(AO CU (kL.take 2) [(4:Int)] 1 []).1
def kW:List Share:=(AO CU (kL.take 2) [(4:Int)] 1 []).2.1
def kE:Int:=(AO CU (kL.take 2) [(4:Int)] 1 []).2.2
set_option maxHeartbeats 4000000 in
set_option maxRecDepth 100000 in
theorem c_sane46 {O:List Nat} (w:World) (hO:∀ b∈O,b<w.heap.size):CE Try.prog 20 [] w (fun v _=>v = .bool (true)):= by
 have s0:St w O w []:=St.start hO
 refine BP 252 Try.func20 rfl rfl oT (fun F0=>?_)
 refine AE (?_)
 refine AB kR (AA (AD (vO false) rfl (AF (AC (?_)))))
 refine AE (?_)
 refine AB kR (AA (IY (E:=Enc.int) (xs:=[.const (vI 3), .const (vI 5), .const (vI 8)]) U22_ MO z_3 (by decide) [vI 3,vI 5,vI 8] [[vI 3],[vI 5],[vI 8]] [(3:Int),(5:Int),(8:Int)] rfl rfl rfl (Parts.cons rfl rfl (Parts.cons rfl rfl (Parts.cons rfl rfl (Parts.nil _ _ _)))) oT s0 fun v7071 w7067 s7068 m7069 k7070 hl7072=>(?_)))
 have:=hl7072.len_le
 refine AA (BC (vs:=[v7071,vI 2,vI 0]) enter_10 (c_new (O:=[]++O) v7071 ([(3:Int),(5:Int),(8:Int)]) (2:Int) (0:Int) w7067 hl7072 (by (simp;done)) s7068.lt) rfl s7068 fun v7073 w7074 s7075 m7076 k7077 r7078=>(?_))
 obtain ⟨cs7079,rfl,hs7080⟩:=r7078
 have hs7080:Enc.circle.rd w7074 ([]++O) cs7079 kC:=hs7080
 refine AA (AG (vT #[vA cs7079.toArray,vI ((KO ([(3:Int),(5:Int),(8:Int)]) (2:Int) (0:Int)).2)]) rfl (AA (AK (vA cs7079.toArray) rfl rfl (AA (AK (vI ((KO ([(3:Int),(5:Int),(8:Int)]) (2:Int) (0:Int)).2)) rfl rfl (AA (CY [vI 0,vI 0,vI 0,nS,nS] KM rfl s7075 fun b7081 w7082 e7087 s7083 m7084 k7085 bx7086=>(?_))))))))
 clear e7087
 have hs7080:Enc.circle.rd w7082 ((b7081 :: [])++O) cs7079 (kC):=Enc.mv Enc.circle (x:=kC) hs7080 m7084
 obtain ⟨d7093,d7095,rfl,hd7094,hd7096⟩:=hs7080
 have:=hd7094.len_le
 have:=hd7096.len_le
 refine BW (BA (vs:=[vI kC.epoch,vI kC.threshold,vI kC.wait,d7093,d7095]) (.agg #[vI kC.epoch,vI kC.threshold,vI kC.wait,d7093,d7095]) rfl rfl rfl BK (fun u hu=>by simp only [List.mem_cons,List.not_mem_nil,or_false] at hu;rcases hu with rfl|rfl|rfl|rfl|rfl <;> first|rfl|exact hd7094.oneCell|exact hd7096.oneCell) (by repeat (constructor)) bx7086 oT s7083 fun w7088 s7089 m7090 k7091 bx7092=>(?_))
 have hd7094:=hd7094.mv m7090
 have hd7096:=hd7096.mv m7090
 refine AA (AD (vI ((KO ([(3:Int),(5:Int),(8:Int)]) (2:Int) (0:Int)).2)) rfl (AF (AC (?_))))
 refine AE (?_)
 refine AB kR (AA (BM (vs:=[vI kC.epoch,vI kC.threshold,vI kC.wait,d7093,d7095]) U28_ rfl BK rfl bx7092 rfl (AA (IY (E:=Enc.u8) (xs:=[.const (vB (7:UInt8))]) U23_ IH z_5 (by decide) [vB (7:UInt8)] [[vB (7:UInt8)]] [(7:UInt8)] rfl rfl rfl (Parts.cons rfl rfl (Parts.nil _ _ _)) oT s7089 fun v7101 w7097 s7098 m7099 k7100 hl7102=>(?_)))))
 have hd7094:=hd7094.mv m7099
 have hd7096:=hd7096.mv m7099
 have bx7092:=bx7092.keep k7100 (by simp)
 have:=hl7102.len_le
 refine AA (IY (E:=Enc.u8) (xs:=[.const (vB (9:UInt8))]) U23_ IH z_5 (by decide) [vB (9:UInt8)] [[vB (9:UInt8)]] [(9:UInt8)] rfl rfl rfl (Parts.cons rfl rfl (Parts.nil _ _ _)) oT s7098 fun v7107 w7103 s7104 m7105 k7106 hl7108=>(?_))
 have hd7094:=hd7094.mv m7105
 have hd7096:=hd7096.mv m7105
 have hl7102:=hl7102.mv m7105
 have bx7092:=bx7092.keep k7106 (by simp)
 have:=hl7108.len_le
 refine AA (BC (vs:=[vA #[vI kC.epoch,vI kC.threshold,vI kC.wait,d7093,d7095],v7101,v7107]) MX (TW (O:=(b7081 :: [])++O) [vI kC.epoch,vI kC.threshold,vI kC.wait,d7093,d7095] kC v7101 ([(7:UInt8)]) v7107 ([(9:UInt8)]) w7103 ⟨_,_,rfl,hd7094,hd7096⟩ hl7102 hl7108 s7104.lt) rfl s7104 fun v7109 w7110 s7111 m7112 k7113 r7114=>(?_))
 obtain ⟨x7115,rfl,hl7116⟩:=r7114
 have:=hl7116.len_le
 have hl7116:BD Enc.share w7110 ((b7081 :: [])++O) x7115 kL:=hl7116
 have hd7094:=hd7094.mv m7112
 have hd7096:=hd7096.mv m7112
 have bx7092:=bx7092.keep k7113 (by simp)
 refine AA (AG (vT #[x7115,vI ((CM kC ([(7:UInt8)]) ([(9:UInt8)])).2)]) rfl (AA (AK (x7115) rfl rfl (AA (AK (vI ((CM kC ([(7:UInt8)]) ([(9:UInt8)])).2)) rfl rfl (AA (AD (x7115) rfl (AA (AD (vI ((CM kC ([(7:UInt8)]) ([(9:UInt8)])).2)) rfl (AF (AC (?_))))))))))))
 refine AE (?_)
 refine AB kR (AA (BM (vs:=[vI kC.epoch,vI kC.threshold,vI kC.wait,d7093,d7095]) U28_ rfl BK rfl bx7092 rfl (AA (AG (x7115) rfl (AA (IY (E:=Enc.u8) (xs:=[.const (vB (4:UInt8))]) U23_ IH z_5 (by decide) [vB (4:UInt8)] [[vB (4:UInt8)]] [(4:UInt8)] rfl rfl rfl (Parts.cons rfl rfl (Parts.nil _ _ _)) oT s7111 fun v7121 w7117 s7118 m7119 k7120 hl7122=>(?_)))))))
 have hl7116:=hl7116.mv m7119
 have hd7094:=hd7094.mv m7119
 have hd7096:=hd7096.mv m7119
 have bx7092:=bx7092.keep k7120 (by simp)
 have:=hl7122.len_le
 refine AA (BC (vs:=[vA #[vI kC.epoch,vI kC.threshold,vI kC.wait,d7093,d7095],x7115,v7121]) PX (RW (O:=(b7081 :: [])++O) [vI kC.epoch,vI kC.threshold,vI kC.wait,d7093,d7095] kC x7115 kL v7121 ([(4:UInt8)]) w7117 ⟨_,_,rfl,hd7094,hd7096⟩ hl7116 hl7122 s7118.lt) rfl s7118 fun v7123 w7124 s7125 m7126 k7127 r7128=>(?_))
 obtain ⟨cs7129,x7131,rfl,hs7130,hl7132⟩:=r7128
 have:=hl7132.len_le
 have hs7130:Enc.circle.rd w7124 ((b7081 :: [])++O) cs7129 kX:=hs7130
 have hl7116:=hl7116.mv m7126
 have hd7094:=hd7094.mv m7126
 have hd7096:=hd7096.mv m7126
 have bx7092:=bx7092.keep k7127 (by simp)
 refine AA (AG (vT #[vA cs7129.toArray,x7131,vI ((AR kC kL ([(4:UInt8)])).2.2)]) rfl (AA (AK (vA cs7129.toArray) rfl rfl (AA (AK (x7131) rfl rfl (AA (AK (vI ((AR kC kL ([(4:UInt8)])).2.2)) rfl rfl (AA (CY [vI 0,vI 0,vI 0,nS,nS] KM rfl s7125 fun b7133 w7134 e7139 s7135 m7136 k7137 bx7138=>(?_))))))))))
 have ne7140:FO b7081 b7133:=by show b7081≠b7133;have:=bx7092.lt;omega
 clear e7139
 have hl7116:=hl7116.mv m7136
 have hd7094:=hd7094.mv m7136
 have hd7096:=hd7096.mv m7136
 have hs7130:Enc.circle.rd w7134 ((b7133 :: (b7081 :: []))++O) cs7129 (kX):=Enc.mv Enc.circle (x:=kX) hs7130 m7136
 have hl7132:=hl7132.mv m7136
 have bx7092:=bx7092.keep k7137 (by simp)
 obtain ⟨d7146,d7148,rfl,hd7147,hd7149⟩:=hs7130
 have:=hd7147.len_le
 have:=hd7149.len_le
 refine BW (BA (vs:=[vI kX.epoch,vI kX.threshold,vI kX.wait,d7146,d7148]) (.agg #[vI kX.epoch,vI kX.threshold,vI kX.wait,d7146,d7148]) rfl rfl rfl BK (fun u hu=>by simp only [List.mem_cons,List.not_mem_nil,or_false] at hu;rcases hu with rfl|rfl|rfl|rfl|rfl <;> first|rfl|exact hd7147.oneCell|exact hd7149.oneCell) (by repeat (constructor)) bx7138 oT s7135 fun w7141 s7142 m7143 k7144 bx7145=>(?_))
 have hl7116:=hl7116.mv m7143
 have hd7094:=hd7094.mv m7143
 have hd7096:=hd7096.mv m7143
 have hl7132:=hl7132.mv m7143
 have hd7147:=hd7147.mv m7143
 have hd7149:=hd7149.mv m7143
 have bx7092:=bx7092.keep k7144 (BG ne7140)
 refine AA (AD (x7131) rfl (AA (AD (vI ((AR kC kL ([(4:UInt8)])).2.2)) rfl (AF (AC (?_))))))
 refine AE (?_)
 refine AB kR (AA (BM (vs:=[vI kC.epoch,vI kC.threshold,vI kC.wait,d7093,d7095]) U28_ rfl BK rfl bx7092 rfl (AA (BC (vs:=[vA #[vI kC.epoch,vI kC.threshold,vI kC.wait,d7093,d7095],vI 1]) SV (c_ask (O:=(b7133 :: (b7081 :: []))++O) [vI kC.epoch,vI kC.threshold,vI kC.wait,d7093,d7095] kC (1:Int) w7141 ⟨_,_,rfl,hd7094,hd7096⟩ s7142.lt) rfl s7142 fun v7150 w7151 s7152 m7153 k7154 r7155=>(?_)))))
 obtain ⟨cs7156,rfl,hs7157⟩:=r7155
 have hs7157:Enc.circle.rd w7151 ((b7133 :: (b7081 :: []))++O) cs7156 kA:=hs7157
 have hl7116:=hl7116.mv m7153
 have hl7132:=hl7132.mv m7153
 have hd7147:=hd7147.mv m7153
 have hd7149:=hd7149.mv m7153
 have bx7092:=bx7092.keep k7154 (by simp)
 have bx7145:=bx7145.keep k7154 (by simp)
 refine AA (AG (vT #[vA cs7156.toArray,vI ((AU kC (1:Int)).2.1),vI ((AU kC (1:Int)).2.2)]) rfl (AA (AK (vA cs7156.toArray) rfl rfl (AA (AK (vI ((AU kC (1:Int)).2.1)) rfl rfl (AA (AK (vI ((AU kC (1:Int)).2.2)) rfl rfl (?_))))))))
 obtain ⟨d7163,d7165,rfl,hd7164,hd7166⟩:=hs7157
 have:=hd7164.len_le
 have:=hd7166.len_le
 refine BW (BA (vs:=[vI kA.epoch,vI kA.threshold,vI kA.wait,d7163,d7165]) (.agg #[vI kA.epoch,vI kA.threshold,vI kA.wait,d7163,d7165]) rfl rfl rfl BK (fun u hu=>by simp only [List.mem_cons,List.not_mem_nil,or_false] at hu;rcases hu with rfl|rfl|rfl|rfl|rfl <;> first|rfl|exact hd7164.oneCell|exact hd7166.oneCell) (by repeat (constructor)) bx7092 oT s7152 fun w7158 s7159 m7160 k7161 bx7162=>(?_))
 have hl7116:=hl7116.mv m7160
 have hl7132:=hl7132.mv m7160
 have hd7147:=hd7147.mv m7160
 have hd7149:=hd7149.mv m7160
 have hd7164:=hd7164.mv m7160
 have hd7166:=hd7166.mv m7160
 have bx7145:=bx7145.keep k7161 (BG (Ne.symm ne7140))
 refine AA (AD (vI ((AU kC (1:Int)).2.1)) rfl (AA (AD (vI ((AU kC (1:Int)).2.2)) rfl (AF (AC (?_))))))
 refine AE (?_)
 refine AB kR (AA (BM (vs:=[vI kA.epoch,vI kA.threshold,vI kA.wait,d7163,d7165]) U28_ rfl BK rfl bx7162 rfl (AA (AG (vI ((AU kC (1:Int)).2.1)) rfl (AA (AG (x7115) rfl (AA (BC (vs:=[vA #[vI kA.epoch,vI kA.threshold,vI kA.wait,d7163,d7165],vI ((AU kC (1:Int)).2.1),x7115]) NL (SY (O:=(b7133 :: (b7081 :: []))++O) [vI kA.epoch,vI kA.threshold,vI kA.wait,d7163,d7165] kA ((AU kC (1:Int)).2.1) x7115 kL w7158 ⟨_,_,rfl,hd7164,hd7166⟩ hl7116 s7159.lt) rfl s7159 fun v7167 w7168 s7169 m7170 k7171 r7172=>(?_)))))))))
 obtain ⟨x7173,rfl,hl7174⟩:=r7172
 have:=hl7174.len_le
 have hl7116:=hl7116.mv m7170
 have hl7132:=hl7132.mv m7170
 have hd7147:=hd7147.mv m7170
 have hd7149:=hd7149.mv m7170
 have hd7164:=hd7164.mv m7170
 have hd7166:=hd7166.mv m7170
 have bx7162:=bx7162.keep k7171 (by simp)
 have bx7145:=bx7145.keep k7171 (by simp)
 refine AA (AG (vT #[x7173,vI ((BO kA ((AU kC (1:Int)).2.1) kL).2)]) rfl (AA (AK (x7173) rfl rfl (AA (AK (vI ((BO kA ((AU kC (1:Int)).2.1) kL).2)) rfl rfl (AA (AD (x7173) rfl (AA (AD (vI ((BO kA ((AU kC (1:Int)).2.1) kL).2)) rfl (AF (AC (?_))))))))))))
 refine AE (?_)
 refine AB kR (AA (BM (vs:=[vI kA.epoch,vI kA.threshold,vI kA.wait,d7163,d7165]) U28_ rfl BK rfl bx7162 rfl (AA (AG (vI ((AU kC (1:Int)).2.1)) rfl (AA (BC (vs:=[vA #[vI kA.epoch,vI kA.threshold,vI kA.wait,d7163,d7165],vI ((AU kC (1:Int)).2.1),vI 3]) PK (OA (O:=(b7133 :: (b7081 :: []))++O) [vI kA.epoch,vI kA.threshold,vI kA.wait,d7163,d7165] kA ((AU kC (1:Int)).2.1) (3:Int) w7168 ⟨_,_,rfl,hd7164,hd7166⟩ s7169.lt) rfl s7169 fun v7175 w7176 s7177 m7178 k7179 r7180=>(?_)))))))
 obtain ⟨cs7181,rfl,hs7182⟩:=r7180
 have hs7182:Enc.circle.rd w7176 ((b7133 :: (b7081 :: []))++O) cs7181 ND:=hs7182
 have hl7116:=hl7116.mv m7178
 have hl7132:=hl7132.mv m7178
 have hd7147:=hd7147.mv m7178
 have hd7149:=hd7149.mv m7178
 have bx7162:=bx7162.keep k7179 (by simp)
 have bx7145:=bx7145.keep k7179 (by simp)
 refine AA (AG (vT #[vA cs7181.toArray,vI ((BN kA ((AU kC (1:Int)).2.1) (AZ kA (3:Int))).2)]) rfl (AA (AK (vA cs7181.toArray) rfl rfl (AA (AK (vI ((BN kA ((AU kC (1:Int)).2.1) (AZ kA (3:Int))).2)) rfl rfl (?_))))))
 obtain ⟨d7188,d7190,rfl,hd7189,hd7191⟩:=hs7182
 have:=hd7189.len_le
 have:=hd7191.len_le
 refine BW (BA (vs:=[vI ND.epoch,vI ND.threshold,vI ND.wait,d7188,d7190]) (.agg #[vI ND.epoch,vI ND.threshold,vI ND.wait,d7188,d7190]) rfl rfl rfl BK (fun u hu=>by simp only [List.mem_cons,List.not_mem_nil,or_false] at hu;rcases hu with rfl|rfl|rfl|rfl|rfl <;> first|rfl|exact hd7189.oneCell|exact hd7191.oneCell) (by repeat (constructor)) bx7162 oT s7177 fun w7183 s7184 m7185 k7186 bx7187=>(?_))
 have hl7116:=hl7116.mv m7185
 have hl7132:=hl7132.mv m7185
 have hd7147:=hd7147.mv m7185
 have hd7149:=hd7149.mv m7185
 have hd7189:=hd7189.mv m7185
 have hd7191:=hd7191.mv m7185
 have bx7145:=bx7145.keep k7186 (BG (Ne.symm ne7140))
 refine AA (AD (vI ((BN kA ((AU kC (1:Int)).2.1) (AZ kA (3:Int))).2)) rfl (AF (AC (?_))))
 refine AE (?_)
 refine AB kR (AA (BM (vs:=[vI ND.epoch,vI ND.threshold,vI ND.wait,d7188,d7190]) U28_ rfl BK rfl bx7187 rfl (AA (AG (vI ((AU kC (1:Int)).2.1)) rfl (AA (BC (vs:=[vA #[vI ND.epoch,vI ND.threshold,vI ND.wait,d7188,d7190],vI ((AU kC (1:Int)).2.1),vI 8]) PK (OA (O:=(b7133 :: (b7081 :: []))++O) [vI ND.epoch,vI ND.threshold,vI ND.wait,d7188,d7190] ND ((AU kC (1:Int)).2.1) (8:Int) w7183 ⟨_,_,rfl,hd7189,hd7191⟩ s7184.lt) rfl s7184 fun v7192 w7193 s7194 m7195 k7196 r7197=>(?_)))))))
 obtain ⟨cs7198,rfl,hs7199⟩:=r7197
 have hs7199:Enc.circle.rd w7193 ((b7133 :: (b7081 :: []))++O) cs7198 MT:=hs7199
 have hl7116:=hl7116.mv m7195
 have hl7132:=hl7132.mv m7195
 have hd7147:=hd7147.mv m7195
 have hd7149:=hd7149.mv m7195
 have bx7187:=bx7187.keep k7196 (by simp)
 have bx7145:=bx7145.keep k7196 (by simp)
 refine AA (AG (vT #[vA cs7198.toArray,vI ((BN ND ((AU kC (1:Int)).2.1) (AZ ND (8:Int))).2)]) rfl (AA (AK (vA cs7198.toArray) rfl rfl (AA (AK (vI ((BN ND ((AU kC (1:Int)).2.1) (AZ ND (8:Int))).2)) rfl rfl (?_))))))
 obtain ⟨d7205,d7207,rfl,hd7206,hd7208⟩:=hs7199
 have:=hd7206.len_le
 have:=hd7208.len_le
 refine BW (BA (vs:=[vI MT.epoch,vI MT.threshold,vI MT.wait,d7205,d7207]) (.agg #[vI MT.epoch,vI MT.threshold,vI MT.wait,d7205,d7207]) rfl rfl rfl BK (fun u hu=>by simp only [List.mem_cons,List.not_mem_nil,or_false] at hu;rcases hu with rfl|rfl|rfl|rfl|rfl <;> first|rfl|exact hd7206.oneCell|exact hd7208.oneCell) (by repeat (constructor)) bx7187 oT s7194 fun w7200 s7201 m7202 k7203 bx7204=>(?_))
 have hl7116:=hl7116.mv m7202
 have hl7132:=hl7132.mv m7202
 have hd7147:=hd7147.mv m7202
 have hd7149:=hd7149.mv m7202
 have hd7206:=hd7206.mv m7202
 have hd7208:=hd7208.mv m7202
 have bx7145:=bx7145.keep k7203 (BG (Ne.symm ne7140))
 refine AA (AD (vI ((BN ND ((AU kC (1:Int)).2.1) (AZ ND (8:Int))).2)) rfl (AF (AC (?_))))
 refine AE (?_)
 refine AB kR (AA (BM (vs:=[vI MT.epoch,vI MT.threshold,vI MT.wait,d7205,d7207]) U28_ rfl BK rfl bx7204 rfl (AA (AG (vI ((AU kC (1:Int)).2.1)) rfl (AA (BC (vs:=[vA #[vI MT.epoch,vI MT.threshold,vI MT.wait,d7205,d7207],vI ((AU kC (1:Int)).2.1),vI 1]) TP (TE (O:=(b7133 :: (b7081 :: []))++O) [vI MT.epoch,vI MT.threshold,vI MT.wait,d7205,d7207] MT ((AU kC (1:Int)).2.1) (1:Int) w7200 ⟨_,_,rfl,hd7206,hd7208⟩ s7201.lt) rfl s7201 fun v7209 w7210 s7211 m7212 k7213 r7214=>(?_)))))))
 obtain ⟨cs7215,rfl,hs7216⟩:=r7214
 have hs7216:Enc.circle.rd w7210 ((b7133 :: (b7081 :: []))++O) cs7215 CU:=hs7216
 have hl7116:=hl7116.mv m7212
 have hl7132:=hl7132.mv m7212
 have hd7147:=hd7147.mv m7212
 have hd7149:=hd7149.mv m7212
 have bx7204:=bx7204.keep k7213 (by simp)
 have bx7145:=bx7145.keep k7213 (by simp)
 refine AA (AG (vT #[vA cs7215.toArray,vI ((BN MT ((AU kC (1:Int)).2.1) (AW MT (1:Int))).2)]) rfl (AA (AK (vA cs7215.toArray) rfl rfl (AA (AK (vI ((BN MT ((AU kC (1:Int)).2.1) (AW MT (1:Int))).2)) rfl rfl (?_))))))
 obtain ⟨d7222,d7224,rfl,hd7223,hd7225⟩:=hs7216
 have:=hd7223.len_le
 have:=hd7225.len_le
 refine BW (BA (vs:=[vI CU.epoch,vI CU.threshold,vI CU.wait,d7222,d7224]) (.agg #[vI CU.epoch,vI CU.threshold,vI CU.wait,d7222,d7224]) rfl rfl rfl BK (fun u hu=>by simp only [List.mem_cons,List.not_mem_nil,or_false] at hu;rcases hu with rfl|rfl|rfl|rfl|rfl <;> first|rfl|exact hd7223.oneCell|exact hd7225.oneCell) (by repeat (constructor)) bx7204 oT s7211 fun w7217 s7218 m7219 k7220 bx7221=>(?_))
 have hl7116:=hl7116.mv m7219
 have hl7132:=hl7132.mv m7219
 have hd7147:=hd7147.mv m7219
 have hd7149:=hd7149.mv m7219
 have hd7223:=hd7223.mv m7219
 have hd7225:=hd7225.mv m7219
 have bx7145:=bx7145.keep k7220 (BG (Ne.symm ne7140))
 refine AA (AD (vI ((BN MT ((AU kC (1:Int)).2.1) (AW MT (1:Int))).2)) rfl (AF (AC (?_))))
 refine AE (?_)
 refine AE (?_)
 refine AB kR (AA (AG (vI ((KO ([(3:Int),(5:Int),(8:Int)]) (2:Int) (0:Int)).2)) rfl (AA (CV .i64 ((KO ([(3:Int),(5:Int),(8:Int)]) (2:Int) (0:Int)).2) (0:Int) rfl rfl (AA (AG (vO (((KO ([(3:Int),(5:Int),(8:Int)]) (2:Int) (0:Int)).2) != (0:Int))) rfl (?_)))))))
 have hb7226:(((KO ([(3:Int),(5:Int),(8:Int)]) (2:Int) (0:Int)).2) != (0:Int))=false:=(by decide +kernel)
 rw [hb7226]
 refine BI rfl (AG (vI ((CM kC ([(7:UInt8)]) ([(9:UInt8)])).2)) rfl (BI rfl (CV .i64 ((CM kC ([(7:UInt8)]) ([(9:UInt8)])).2) (0:Int) rfl rfl (AA (CA (vO (((CM kC ([(7:UInt8)]) ([(9:UInt8)])).2) != (0:Int))) rfl rfl (AA (AG (vO (((CM kC ([(7:UInt8)]) ([(9:UInt8)])).2) != (0:Int))) rfl (?_))))))))
 have hb7227:(((CM kC ([(7:UInt8)]) ([(9:UInt8)])).2) != (0:Int))=false:=(by decide +kernel)
 rw [hb7227]
 refine BI rfl (AG (vI ((AR kC kL ([(4:UInt8)])).2.2)) rfl (BI rfl (CV .i64 ((AR kC kL ([(4:UInt8)])).2.2) (0:Int) rfl rfl (AA (CA (vO (((AR kC kL ([(4:UInt8)])).2.2) != (0:Int))) rfl rfl (AA (AG (vO (((AR kC kL ([(4:UInt8)])).2.2) != (0:Int))) rfl (?_))))))))
 have hb7228:(((AR kC kL ([(4:UInt8)])).2.2) != (0:Int))=false:=(by decide +kernel)
 rw [hb7228]
 refine BI rfl (AG (vI ((AU kC (1:Int)).2.2)) rfl (BI rfl (CV .i64 ((AU kC (1:Int)).2.2) (0:Int) rfl rfl (AA (CA (vO (((AU kC (1:Int)).2.2) != (0:Int))) rfl rfl (AA (AG (vO (((AU kC (1:Int)).2.2) != (0:Int))) rfl (?_))))))))
 have hb7229:(((AU kC (1:Int)).2.2) != (0:Int))=false:=(by decide +kernel)
 rw [hb7229]
 refine BI rfl (AG (vI ((BN kA ((AU kC (1:Int)).2.1) (AZ kA (3:Int))).2)) rfl (BI rfl (CV .i64 ((BN kA ((AU kC (1:Int)).2.1) (AZ kA (3:Int))).2) (0:Int) rfl rfl (AA (CA (vO (((BN kA ((AU kC (1:Int)).2.1) (AZ kA (3:Int))).2) != (0:Int))) rfl rfl (AA (AG (vO (((BN kA ((AU kC (1:Int)).2.1) (AZ kA (3:Int))).2) != (0:Int))) rfl (?_))))))))
 have hb7230:(((BN kA ((AU kC (1:Int)).2.1) (AZ kA (3:Int))).2) != (0:Int))=false:=(by decide +kernel)
 rw [hb7230]
 refine BI rfl (AG (vI ((BN ND ((AU kC (1:Int)).2.1) (AZ ND (8:Int))).2)) rfl (BI rfl (CV .i64 ((BN ND ((AU kC (1:Int)).2.1) (AZ ND (8:Int))).2) (0:Int) rfl rfl (AA (CA (vO (((BN ND ((AU kC (1:Int)).2.1) (AZ ND (8:Int))).2) != (0:Int))) rfl rfl (AA (AG (vO (((BN ND ((AU kC (1:Int)).2.1) (AZ ND (8:Int))).2) != (0:Int))) rfl (?_))))))))
 have hb7231:(((BN ND ((AU kC (1:Int)).2.1) (AZ ND (8:Int))).2) != (0:Int))=false:=(by decide +kernel)
 rw [hb7231]
 refine BI rfl (AG (vI ((BN MT ((AU kC (1:Int)).2.1) (AW MT (1:Int))).2)) rfl (BI rfl (CV .i64 ((BN MT ((AU kC (1:Int)).2.1) (AW MT (1:Int))).2) (0:Int) rfl rfl (AA (CA (vO (((BN MT ((AU kC (1:Int)).2.1) (AW MT (1:Int))).2) != (0:Int))) rfl rfl (AA (AG (vO (((BN MT ((AU kC (1:Int)).2.1) (AW MT (1:Int))).2) != (0:Int))) rfl (?_))))))))
 have hb7232:(((BN MT ((AU kC (1:Int)).2.1) (AW MT (1:Int))).2) != (0:Int))=false:=(by decide +kernel)
 rw [hb7232]
 refine BI rfl (AG (x7115) rfl (BI rfl (CG U32_ rfl hl7116 (BI rfl (CV .i64 (kL.length:Int) (3:Int) rfl rfl (AA (CA (vO ((kL.length:Int) != (3:Int))) rfl rfl (AA (AG (vO ((kL.length:Int) != (3:Int))) rfl (?_))))))))))
 have hb7233:((kL.length:Int) != (3:Int))=false:=(by decide +kernel)
 rw [hb7233]
 refine BI rfl (AG (x7131) rfl (BI rfl (CG U32_ rfl hl7132 (BI rfl (CV .i64 (((AR kC kL ([(4:UInt8)])).2.1).length:Int) (3:Int) rfl rfl (AA (CA (vO ((((AR kC kL ([(4:UInt8)])).2.1).length:Int) != (3:Int))) rfl rfl (AF (AC (?_))))))))))
 have hb7234:((((AR kC kL ([(4:UInt8)])).2.1).length:Int) != (3:Int))=false:=(by decide +kernel)
 rw [hb7234]
 refine AL false rfl rfl (fun h=>by cases h) (fun _=>?_)
 refine AT (AC (?_))
 refine AE (?_)
 refine cw_draw' 9 _ _ [DE (vA #[vI CU.epoch,vI CU.threshold,vI CU.wait,d7222,d7224]),DE (vI ((AU kC (1:Int)).2.1)),fun (vT:Value) (wT:World)=>BD Enc.share wT ((b7133 :: (b7081 :: []))++O) vT (kL),fun (vT:Value) (wT:World)=>BD Enc.share wT ((b7133 :: (b7081 :: []))++O) vT ((kL.drop 1)),fun (vT:Value) (wT:World)=>∃ (xT0:Value),vT = .tuple #[xT0,vI ((BO CU ((AU kC (1:Int)).2.1) (kL.drop 1)).2)]∧BD Enc.u8 wT ((b7133 :: (b7081 :: []))++O) xT0 ((BO CU ((AU kC (1:Int)).2.1) (kL.drop 1)).1),fun (vT:Value) (wT:World)=>∃ (xT0:Value),vT = .tuple #[xT0,vI ((BO CU ((AU kC (1:Int)).2.1) (kL.drop 1)).2)]∧BD Enc.u8 wT ((b7133 :: (b7081 :: []))++O) xT0 ((BO CU ((AU kC (1:Int)).2.1) (kL.drop 1)).1),fun (vT:Value) (wT:World)=>BD Enc.u8 wT ((b7133 :: (b7081 :: []))++O) vT ((BO CU ((AU kC (1:Int)).2.1) (kL.drop 1)).1),DE (vI ((BO CU ((AU kC (1:Int)).2.1) (kL.drop 1)).2)),fun (vT:Value) (wT:World)=>BD Enc.u8 wT ((b7133 :: (b7081 :: []))++O) vT ((BO CU ((AU kC (1:Int)).2.1) (kL.drop 1)).1)] kR kR kR kR rfl rfl ⟨kI,kI,fun _ _ _ h k=>h.mv (Mv.of_keep k),fun _ _ _ h k=>h.mv (Mv.of_keep k),fun _ _ _ ⟨y0,e,h0⟩ k=>⟨y0,e,h0.mv (Mv.of_keep k)⟩,fun _ _ _ ⟨y0,e,h0⟩ k=>⟨y0,e,h0.mv (Mv.of_keep k)⟩,fun _ _ _ h k=>h.mv (Mv.of_keep k),kI,fun _ _ _ h k=>h.mv (Mv.of_keep k),trivial⟩ ⟨?_,?_,?_,?_,?_,?_,?_,?_,?_,trivial⟩ ?_
 ·intro F1 w1 k1 hf hd
  have k0:=(Keep.drew [] w7217).trans k1
  have bx7221:=bx7221.keep k0 (by simp)
  obtain ⟨F2,rfl⟩:=AJ (F:=F1) [(1,vP (some ⟨b7081,0,none⟩))] ⟨hf 1 kR,trivial⟩
  exact AH rfl ((BM (vs:=[vI CU.epoch,vI CU.threshold,vI CU.wait,d7222,d7224]) U28_ rfl BK rfl bx7221 rfl (⟨(Keep.refl _ _),rfl⟩)))
 ·intro F1 w1 k1 hf hd
  obtain ⟨F2,rfl⟩:=AJ (F:=F1) [(8,vI ((AU kC (1:Int)).2.1))] ⟨hf 8 kR,trivial⟩
  exact AH rfl ((AG (vI ((AU kC (1:Int)).2.1)) rfl (⟨(Keep.refl _ _),rfl⟩)))
 ·intro F1 w1 k1 hf hd
  have k0:=(Keep.drew [] w7217).trans k1
  have m1:Mv (b7133 :: (b7081 :: [])) w7217 (b7133 :: (b7081 :: [])) w1:=Mv.of_keep k0
  have hl7116:=hl7116.mv m1
  obtain ⟨F2,rfl⟩:=AJ (F:=F1) [(3,x7115)] ⟨hf 3 kR,trivial⟩
  exact AH rfl ((AG (x7115) rfl (⟨(Keep.refl _ _),hl7116⟩)))
 ·intro F1 w1 k1 hf hd
  obtain ⟨v7235,e7237,hl7236⟩:∃ v,F1 123=v∧BD Enc.share w1 ((b7133 :: (b7081 :: []))++O) v (kL):=⟨_,rfl,hd 2 123 kR⟩
  have:=hl7236.len_le
  obtain ⟨F2,rfl⟩:=AJ (F:=F1) [(123,v7235)] ⟨e7237,trivial⟩
  refine AH rfl ((NG U32_ DP 1 kL.length rfl (.inr ⟨.const (vI 1), .i64,(1:Int),rfl,rfl,rfl⟩) (.inl ⟨rfl,rfl⟩) (by decide +kernel) (by decide +kernel) hl7236 fun v7238 hl7239=>(?_)))
  rw [List.take_length] at hl7239
  exact ⟨(Keep.refl _ _),hl7239⟩
 ·intro F1 w1 k1 hf hd
  have k0:=(Keep.drew [] w7217).trans k1
  have s1:=s7218.call k0
  have m1:Mv (b7133 :: (b7081 :: [])) w7217 (b7133 :: (b7081 :: [])) w1:=Mv.of_keep k0
  have hd7223:=hd7223.mv m1
  have hd7225:=hd7225.mv m1
  obtain ⟨v7240,e7242,hl7241⟩:∃ v,F1 124=v∧BD Enc.share w1 ((b7133 :: (b7081 :: []))++O) v ((kL.drop 1)):=⟨_,rfl,hd 3 124 kR⟩
  have:=hl7241.len_le
  obtain ⟨F2,rfl⟩:=AJ (F:=F1) [(121,vA #[vI CU.epoch,vI CU.threshold,vI CU.wait,d7222,d7224]),(122,vI ((AU kC (1:Int)).2.1)),(124,v7240)] ⟨hd 0 121 kR,hd 1 122 kR,e7242,trivial⟩
  refine AH rfl ((BC (vs:=[vA #[vI CU.epoch,vI CU.threshold,vI CU.wait,d7222,d7224],vI ((AU kC (1:Int)).2.1),v7240]) NL (SY (O:=(b7133 :: (b7081 :: []))++O) [vI CU.epoch,vI CU.threshold,vI CU.wait,d7222,d7224] CU ((AU kC (1:Int)).2.1) v7240 (kL.drop 1) w1 ⟨_,_,rfl,hd7223,hd7225⟩ hl7241 s1.lt) rfl s1 fun v7243 w7244 s7245 m7246 k7247 r7248=>(?_)))
  obtain ⟨x7249,rfl,hl7250⟩:=r7248
  have:=hl7250.len_le
  exact ⟨k7247,⟨x7249,rfl,hl7250⟩⟩
 ·intro F1 w1 k1 hf hd
  obtain ⟨x7251,e7253,hl7252⟩:(fun (vT:Value) (wT:World)=>∃ (xT0:Value),vT = .tuple #[xT0,vI ((BO CU ((AU kC (1:Int)).2.1) (kL.drop 1)).2)]∧BD Enc.u8 wT ((b7133 :: (b7081 :: []))++O) xT0 ((BO CU ((AU kC (1:Int)).2.1) (kL.drop 1)).1)) (F1 125) w1:=hd 4 125 kR
  have:=hl7252.len_le
  obtain ⟨F2,rfl⟩:=AJ (F:=F1) [(125,vT #[x7251,vI ((BO CU ((AU kC (1:Int)).2.1) (kL.drop 1)).2)])] ⟨e7253,trivial⟩
  exact AH rfl ((AG (vT #[x7251,vI ((BO CU ((AU kC (1:Int)).2.1) (kL.drop 1)).2)]) rfl (⟨(Keep.refl _ _),⟨x7251,rfl,hl7252⟩⟩)))
 ·intro F1 w1 k1 hf hd
  obtain ⟨x7254,e7256,hl7255⟩:(fun (vT:Value) (wT:World)=>∃ (xT0:Value),vT = .tuple #[xT0,vI ((BO CU ((AU kC (1:Int)).2.1) (kL.drop 1)).2)]∧BD Enc.u8 wT ((b7133 :: (b7081 :: []))++O) xT0 ((BO CU ((AU kC (1:Int)).2.1) (kL.drop 1)).1)) (F1 120) w1:=hd 5 120 kR
  have:=hl7255.len_le
  obtain ⟨F2,rfl⟩:=AJ (F:=F1) [(120,vT #[x7254,vI ((BO CU ((AU kC (1:Int)).2.1) (kL.drop 1)).2)])] ⟨e7256,trivial⟩
  exact AH rfl ((AK (x7254) rfl rfl (⟨(Keep.refl _ _),hl7255⟩)))
 ·intro F1 w1 k1 hf hd
  obtain ⟨x7257,e7259,hl7258⟩:(fun (vT:Value) (wT:World)=>∃ (xT0:Value),vT = .tuple #[xT0,vI ((BO CU ((AU kC (1:Int)).2.1) (kL.drop 1)).2)]∧BD Enc.u8 wT ((b7133 :: (b7081 :: []))++O) xT0 ((BO CU ((AU kC (1:Int)).2.1) (kL.drop 1)).1)) (F1 120) w1:=hd 5 120 kR
  have:=hl7258.len_le
  obtain ⟨F2,rfl⟩:=AJ (F:=F1) [(120,vT #[x7257,vI ((BO CU ((AU kC (1:Int)).2.1) (kL.drop 1)).2)])] ⟨e7259,trivial⟩
  exact AH rfl ((AK (vI ((BO CU ((AU kC (1:Int)).2.1) (kL.drop 1)).2)) rfl rfl (⟨(Keep.refl _ _),rfl⟩)))
 ·intro F1 w1 k1 hf hd
  obtain ⟨v7260,e7262,hl7261⟩:∃ v,F1 126=v∧BD Enc.u8 w1 ((b7133 :: (b7081 :: []))++O) v ((BO CU ((AU kC (1:Int)).2.1) (kL.drop 1)).1):=⟨_,rfl,hd 6 126 kR⟩
  have:=hl7261.len_le
  obtain ⟨F2,rfl⟩:=AJ (F:=F1) [(126,v7260)] ⟨e7262,trivial⟩
  exact AH rfl ((AD (v7260) rfl (⟨(Keep.refl _ _),hl7261⟩)))
 intro F7264 w7265 k7263 hT7266 hF7267
 have s7268:=s7218.call k7263
 have m7269:Mv (b7133 :: (b7081 :: [])) w7217 (b7133 :: (b7081 :: [])) w7265:=Mv.of_keep k7263
 have hl7116:=hl7116.mv m7269
 have hl7132:=hl7132.mv m7269
 have hd7147:=hd7147.mv m7269
 have hd7149:=hd7149.mv m7269
 have hd7223:=hd7223.mv m7269
 have hd7225:=hd7225.mv m7269
 have bx7221:=bx7221.keep k7263 (by simp)
 have bx7145:=bx7145.keep k7263 (by simp)
 obtain ⟨v7272,e7274,hl7273⟩:∃ v,F7264 15=v∧BD Enc.u8 w7265 ((b7133 :: (b7081 :: []))++O) v ((BO CU ((AU kC (1:Int)).2.1) (kL.drop 1)).1):=⟨_,rfl,hT7266 8 15 kR (by decide)⟩
 have:=hl7273.len_le
 obtain ⟨F2,rfl⟩:=AJ (F:=F7264) [(1,vP (some ⟨b7081,0,none⟩)),(3,x7115),(5,vP (some ⟨b7133,0,none⟩)),(6,x7131),(8,vI ((AU kC (1:Int)).2.1)),(11,vI ((BO kA ((AU kC (1:Int)).2.1) kL).2)),(252,undef),(15,v7272),(127,vI ((BO CU ((AU kC (1:Int)).2.1) (kL.drop 1)).2))] ⟨hF7267 1 kR,hF7267 3 kR,hF7267 5 kR,hF7267 6 kR,hF7267 8 kR,hF7267 11 kR,hF7267 252 kR,e7274,hT7266 7 127 kR (by decide),trivial⟩
 clear hT7266 hF7267
 refine AA (AD (vI ((BO CU ((AU kC (1:Int)).2.1) (kL.drop 1)).2)) rfl (AF (AC (?_))))
 refine AE (?_)
 refine cw_draw' 9 _ _ [DE (vA #[vI CU.epoch,vI CU.threshold,vI CU.wait,d7222,d7224]),DE (vI ((AU kC (1:Int)).2.1)),fun (vT:Value) (wT:World)=>BD Enc.share wT ((b7133 :: (b7081 :: []))++O) vT ((AR kC kL ([(4:UInt8)])).2.1),fun (vT:Value) (wT:World)=>BD Enc.share wT ((b7133 :: (b7081 :: []))++O) vT ((((AR kC kL ([(4:UInt8)])).2.1).drop 1)),fun (vT:Value) (wT:World)=>∃ (xT0:Value),vT = .tuple #[xT0,vI ((BO CU ((AU kC (1:Int)).2.1) (((AR kC kL ([(4:UInt8)])).2.1).drop 1)).2)]∧BD Enc.u8 wT ((b7133 :: (b7081 :: []))++O) xT0 ((BO CU ((AU kC (1:Int)).2.1) (((AR kC kL ([(4:UInt8)])).2.1).drop 1)).1),fun (vT:Value) (wT:World)=>∃ (xT0:Value),vT = .tuple #[xT0,vI ((BO CU ((AU kC (1:Int)).2.1) (((AR kC kL ([(4:UInt8)])).2.1).drop 1)).2)]∧BD Enc.u8 wT ((b7133 :: (b7081 :: []))++O) xT0 ((BO CU ((AU kC (1:Int)).2.1) (((AR kC kL ([(4:UInt8)])).2.1).drop 1)).1),fun (vT:Value) (wT:World)=>BD Enc.u8 wT ((b7133 :: (b7081 :: []))++O) vT ((BO CU ((AU kC (1:Int)).2.1) (((AR kC kL ([(4:UInt8)])).2.1).drop 1)).1),DE (vI ((BO CU ((AU kC (1:Int)).2.1) (((AR kC kL ([(4:UInt8)])).2.1).drop 1)).2)),fun (vT:Value) (wT:World)=>BD Enc.u8 wT ((b7133 :: (b7081 :: []))++O) vT ((BO CU ((AU kC (1:Int)).2.1) (((AR kC kL ([(4:UInt8)])).2.1).drop 1)).1)] kR kR kR kR rfl rfl ⟨kI,kI,fun _ _ _ h k=>h.mv (Mv.of_keep k),fun _ _ _ h k=>h.mv (Mv.of_keep k),fun _ _ _ ⟨y0,e,h0⟩ k=>⟨y0,e,h0.mv (Mv.of_keep k)⟩,fun _ _ _ ⟨y0,e,h0⟩ k=>⟨y0,e,h0.mv (Mv.of_keep k)⟩,fun _ _ _ h k=>h.mv (Mv.of_keep k),kI,fun _ _ _ h k=>h.mv (Mv.of_keep k),trivial⟩ ⟨?_,?_,?_,?_,?_,?_,?_,?_,?_,trivial⟩ ?_
 ·intro F1 w1 k1 hf hd
  have k0:=(Keep.drew [] w7265).trans k1
  have bx7221:=bx7221.keep k0 (by simp)
  obtain ⟨F2,rfl⟩:=AJ (F:=F1) [(1,vP (some ⟨b7081,0,none⟩))] ⟨hf 1 kR,trivial⟩
  exact AH rfl ((BM (vs:=[vI CU.epoch,vI CU.threshold,vI CU.wait,d7222,d7224]) U28_ rfl BK rfl bx7221 rfl (⟨(Keep.refl _ _),rfl⟩)))
 ·intro F1 w1 k1 hf hd
  obtain ⟨F2,rfl⟩:=AJ (F:=F1) [(8,vI ((AU kC (1:Int)).2.1))] ⟨hf 8 kR,trivial⟩
  exact AH rfl ((AG (vI ((AU kC (1:Int)).2.1)) rfl (⟨(Keep.refl _ _),rfl⟩)))
 ·intro F1 w1 k1 hf hd
  have k0:=(Keep.drew [] w7265).trans k1
  have m1:Mv (b7133 :: (b7081 :: [])) w7265 (b7133 :: (b7081 :: [])) w1:=Mv.of_keep k0
  have hl7132:=hl7132.mv m1
  obtain ⟨F2,rfl⟩:=AJ (F:=F1) [(6,x7131)] ⟨hf 6 kR,trivial⟩
  exact AH rfl ((AG (x7131) rfl (⟨(Keep.refl _ _),hl7132⟩)))
 ·intro F1 w1 k1 hf hd
  obtain ⟨v7275,e7277,hl7276⟩:∃ v,F1 131=v∧BD Enc.share w1 ((b7133 :: (b7081 :: []))++O) v ((AR kC kL ([(4:UInt8)])).2.1):=⟨_,rfl,hd 2 131 kR⟩
  have:=hl7276.len_le
  obtain ⟨F2,rfl⟩:=AJ (F:=F1) [(131,v7275)] ⟨e7277,trivial⟩
  refine AH rfl ((NG U32_ DP 1 (((AR kC kL ([(4:UInt8)])).2.1).length) rfl (.inr ⟨.const (vI 1), .i64,(1:Int),rfl,rfl,rfl⟩) (.inl ⟨rfl,rfl⟩) (by decide +kernel) (by decide +kernel) hl7276 fun v7278 hl7279=>(?_)))
  rw [List.take_length] at hl7279
  exact ⟨(Keep.refl _ _),hl7279⟩
 ·intro F1 w1 k1 hf hd
  have k0:=(Keep.drew [] w7265).trans k1
  have s1:=s7268.call k0
  have m1:Mv (b7133 :: (b7081 :: [])) w7265 (b7133 :: (b7081 :: [])) w1:=Mv.of_keep k0
  have hd7223:=hd7223.mv m1
  have hd7225:=hd7225.mv m1
  obtain ⟨v7280,e7282,hl7281⟩:∃ v,F1 132=v∧BD Enc.share w1 ((b7133 :: (b7081 :: []))++O) v ((((AR kC kL ([(4:UInt8)])).2.1).drop 1)):=⟨_,rfl,hd 3 132 kR⟩
  have:=hl7281.len_le
  obtain ⟨F2,rfl⟩:=AJ (F:=F1) [(129,vA #[vI CU.epoch,vI CU.threshold,vI CU.wait,d7222,d7224]),(130,vI ((AU kC (1:Int)).2.1)),(132,v7280)] ⟨hd 0 129 kR,hd 1 130 kR,e7282,trivial⟩
  refine AH rfl ((BC (vs:=[vA #[vI CU.epoch,vI CU.threshold,vI CU.wait,d7222,d7224],vI ((AU kC (1:Int)).2.1),v7280]) NL (SY (O:=(b7133 :: (b7081 :: []))++O) [vI CU.epoch,vI CU.threshold,vI CU.wait,d7222,d7224] CU ((AU kC (1:Int)).2.1) v7280 (((AR kC kL ([(4:UInt8)])).2.1).drop 1) w1 ⟨_,_,rfl,hd7223,hd7225⟩ hl7281 s1.lt) rfl s1 fun v7283 w7284 s7285 m7286 k7287 r7288=>(?_)))
  obtain ⟨x7289,rfl,hl7290⟩:=r7288
  have:=hl7290.len_le
  exact ⟨k7287,⟨x7289,rfl,hl7290⟩⟩
 ·intro F1 w1 k1 hf hd
  obtain ⟨x7291,e7293,hl7292⟩:(fun (vT:Value) (wT:World)=>∃ (xT0:Value),vT = .tuple #[xT0,vI ((BO CU ((AU kC (1:Int)).2.1) (((AR kC kL ([(4:UInt8)])).2.1).drop 1)).2)]∧BD Enc.u8 wT ((b7133 :: (b7081 :: []))++O) xT0 ((BO CU ((AU kC (1:Int)).2.1) (((AR kC kL ([(4:UInt8)])).2.1).drop 1)).1)) (F1 133) w1:=hd 4 133 kR
  have:=hl7292.len_le
  obtain ⟨F2,rfl⟩:=AJ (F:=F1) [(133,vT #[x7291,vI ((BO CU ((AU kC (1:Int)).2.1) (((AR kC kL ([(4:UInt8)])).2.1).drop 1)).2)])] ⟨e7293,trivial⟩
  exact AH rfl ((AG (vT #[x7291,vI ((BO CU ((AU kC (1:Int)).2.1) (((AR kC kL ([(4:UInt8)])).2.1).drop 1)).2)]) rfl (⟨(Keep.refl _ _),⟨x7291,rfl,hl7292⟩⟩)))
 ·intro F1 w1 k1 hf hd
  obtain ⟨x7294,e7296,hl7295⟩:(fun (vT:Value) (wT:World)=>∃ (xT0:Value),vT = .tuple #[xT0,vI ((BO CU ((AU kC (1:Int)).2.1) (((AR kC kL ([(4:UInt8)])).2.1).drop 1)).2)]∧BD Enc.u8 wT ((b7133 :: (b7081 :: []))++O) xT0 ((BO CU ((AU kC (1:Int)).2.1) (((AR kC kL ([(4:UInt8)])).2.1).drop 1)).1)) (F1 128) w1:=hd 5 128 kR
  have:=hl7295.len_le
  obtain ⟨F2,rfl⟩:=AJ (F:=F1) [(128,vT #[x7294,vI ((BO CU ((AU kC (1:Int)).2.1) (((AR kC kL ([(4:UInt8)])).2.1).drop 1)).2)])] ⟨e7296,trivial⟩
  exact AH rfl ((AK (x7294) rfl rfl (⟨(Keep.refl _ _),hl7295⟩)))
 ·intro F1 w1 k1 hf hd
  obtain ⟨x7297,e7299,hl7298⟩:(fun (vT:Value) (wT:World)=>∃ (xT0:Value),vT = .tuple #[xT0,vI ((BO CU ((AU kC (1:Int)).2.1) (((AR kC kL ([(4:UInt8)])).2.1).drop 1)).2)]∧BD Enc.u8 wT ((b7133 :: (b7081 :: []))++O) xT0 ((BO CU ((AU kC (1:Int)).2.1) (((AR kC kL ([(4:UInt8)])).2.1).drop 1)).1)) (F1 128) w1:=hd 5 128 kR
  have:=hl7298.len_le
  obtain ⟨F2,rfl⟩:=AJ (F:=F1) [(128,vT #[x7297,vI ((BO CU ((AU kC (1:Int)).2.1) (((AR kC kL ([(4:UInt8)])).2.1).drop 1)).2)])] ⟨e7299,trivial⟩
  exact AH rfl ((AK (vI ((BO CU ((AU kC (1:Int)).2.1) (((AR kC kL ([(4:UInt8)])).2.1).drop 1)).2)) rfl rfl (⟨(Keep.refl _ _),rfl⟩)))
 ·intro F1 w1 k1 hf hd
  obtain ⟨v7300,e7302,hl7301⟩:∃ v,F1 134=v∧BD Enc.u8 w1 ((b7133 :: (b7081 :: []))++O) v ((BO CU ((AU kC (1:Int)).2.1) (((AR kC kL ([(4:UInt8)])).2.1).drop 1)).1):=⟨_,rfl,hd 6 134 kR⟩
  have:=hl7301.len_le
  obtain ⟨F2,rfl⟩:=AJ (F:=F1) [(134,v7300)] ⟨e7302,trivial⟩
  exact AH rfl ((AD (v7300) rfl (⟨(Keep.refl _ _),hl7301⟩)))
 intro F7304 w7305 k7303 hT7306 hF7307
 have s7308:=s7268.call k7303
 have m7309:Mv (b7133 :: (b7081 :: [])) w7265 (b7133 :: (b7081 :: [])) w7305:=Mv.of_keep k7303
 have hl7116:=hl7116.mv m7309
 have hl7132:=hl7132.mv m7309
 have hl7273:=hl7273.mv m7309
 have hd7223:=hd7223.mv m7309
 have hd7225:=hd7225.mv m7309
 have bx7221:=bx7221.keep k7303 (by simp)
 have hd7147:=hd7147.mv m7309
 have hd7149:=hd7149.mv m7309
 have bx7145:=bx7145.keep k7303 (by simp)
 obtain ⟨F2,rfl⟩:=AJ (F:=F7304) [(1,vP (some ⟨b7081,0,none⟩)),(3,x7115),(5,vP (some ⟨b7133,0,none⟩)),(6,x7131),(11,vI ((BO kA ((AU kC (1:Int)).2.1) kL).2)),(15,v7272),(16,vI ((BO CU ((AU kC (1:Int)).2.1) (kL.drop 1)).2)),(252,undef),(135,vI ((BO CU ((AU kC (1:Int)).2.1) (((AR kC kL ([(4:UInt8)])).2.1).drop 1)).2))] ⟨hF7307 1 kR,hF7307 3 kR,hF7307 5 kR,hF7307 6 kR,hF7307 11 kR,hF7307 15 kR,hF7307 16 kR,hF7307 252 kR,hT7306 7 135 kR (by decide),trivial⟩
 clear hT7306 hF7307
 refine AA (AD (vI ((BO CU ((AU kC (1:Int)).2.1) (((AR kC kL ([(4:UInt8)])).2.1).drop 1)).2)) rfl (AF (AC (?_))))
 refine QJ (fun FI wI=>∃ (bnc146_19:Nat) (vnc146_19_3:Value) (vnc146_19_4:Value) (vrc146_20:Value) (B:List Nat),True∧(∃ F1,FI=FR F1 [(1,vP (some ⟨b7081,0,none⟩)),(3,x7115),(5,vP (some ⟨b7133,0,none⟩)),(6,x7131),(11,vI ((BO kA ((AU kC (1:Int)).2.1) kL).2)),(15,v7272),(16,vI ((BO CU ((AU kC (1:Int)).2.1) (kL.drop 1)).2)),(18,vI ((BO CU ((AU kC (1:Int)).2.1) (((AR kC kL ([(4:UInt8)])).2.1).drop 1)).2)),(19,vP (some ⟨bnc146_19,0,none⟩)),(20,vrc146_20),(21,vI kE),(252,undef)])∧St w O wI B∧BD Enc.share wI (B++O) vrc146_20 (kW)∧BD Enc.share wI (B++O) (x7115) (kL)∧BD Enc.share wI (B++O) (x7131) ((AR kC kL ([(4:UInt8)])).2.1)∧BD Enc.u8 wI (B++O) (v7272) ((BO CU ((AU kC (1:Int)).2.1) (kL.drop 1)).1)∧BD Enc.int wI (B++O) (d7222) (CU.guardians)∧BD Enc.recovery wI (B++O) (d7224) (CU.recs)∧GO wI b7081 28 [vI CU.epoch,vI CU.threshold,vI CU.wait,d7222,d7224]∧b7081∈B∧BD Enc.int wI (B++O) (d7146) (kX.guardians)∧BD Enc.recovery wI (B++O) (d7148) (kX.recs)∧GO wI b7133 28 [vI kX.epoch,vI kX.threshold,vI kX.wait,d7146,d7148]∧b7133∈B∧GO wI bnc146_19 28 [vI kZ.epoch,vI kZ.threshold,vI kZ.wait,vnc146_19_3,vnc146_19_4]∧BD Enc.int wI (B++O) vnc146_19_3 (kZ.guardians)∧BD Enc.recovery wI (B++O) vnc146_19_4 (kZ.recs)∧bnc146_19∈B∧FO b7081 bnc146_19∧FO b7133 bnc146_19) ?_ ?_
 ·refine cw_drawUN 10 [7,8] [[7],[8],[7,8]] (by intro c F d v w hd;simp only [QC,OZ];exact qp_end c F d v w hd) _ _ _ [fun _=>DE (vA #[vI CU.epoch,vI CU.threshold,vI CU.wait,d7222,d7224]),fun _=>fun (vT:Value) (_:World)=>BD Enc.share w7305 ((b7133 :: (b7081 :: []))++O) vT (kL),fun _=>fun (vT:Value) (_:World)=>BD Enc.share w7305 ((b7133 :: (b7081 :: []))++O) vT ((kL.take 2)),fun (BT:List Nat) (vT:Value) (wT:World)=>BD Enc.int wT (BT++O) vT ([(4:Int)]),fun (BT:List Nat) (vT:Value) (wT:World)=>∃ (xT0:List Value) (xT1:Value),vT = .tuple #[.agg xT0.toArray,xT1,vI ((AO CU (kL.take 2) ([(4:Int)]) (1:Int) ([])).2.2)]∧Enc.circle.rd wT (BT++O) xT0 (kZ)∧BD Enc.share wT (BT++O) xT1 ((AO CU (kL.take 2) ([(4:Int)]) (1:Int) ([])).2.1),fun (BT:List Nat) (vT:Value) (wT:World)=>∃ (xT0:List Value) (xT1:Value),vT = .tuple #[.agg xT0.toArray,xT1,vI ((AO CU (kL.take 2) ([(4:Int)]) (1:Int) ([])).2.2)]∧Enc.circle.rd wT (BT++O) xT0 (kZ)∧BD Enc.share wT (BT++O) xT1 ((AO CU (kL.take 2) ([(4:Int)]) (1:Int) ([])).2.1),fun (BT:List Nat) (vT:Value) (wT:World)=>∃ csT:List Value,vT = .agg csT.toArray∧Enc.circle.rd wT (BT++O) csT (kZ),fun (BT:List Nat) (vT:Value) (wT:World)=>BD Enc.share wT (BT++O) vT ((AO CU (kL.take 2) ([(4:Int)]) (1:Int) ([])).2.1),fun _=>DE (vI ((AO CU (kL.take 2) ([(4:Int)]) (1:Int) ([])).2.2)),RS w7305 28 [vI 0,vI 0,vI 0,nS,nS]] [⟨0,[],[],[],false,[]⟩,⟨0,[],[],[],false,[]⟩,⟨0,[],[],[],false,[1]⟩,⟨1,[],[],[],false,[]⟩,⟨1,[1],[],[],false,[0,2,3]⟩,⟨1,[1],[],[],false,[4]⟩,⟨1,[1],[],[],false,[5]⟩,⟨1,[1],[],[],false,[5]⟩,⟨0,[1],[],[],false,[5]⟩,⟨2,[],[],[],false,[]⟩] (b7133 :: (b7081 :: [])) kR kR kR kR kR (by decide) rfl rfl rfl ⟨fun _ _ _ _ _ h=>h,fun _ _ _ _ _ h=>h,fun _ _ _ _ _ h=>h,(show ∀ B B2 v w w2,(fun (BT:List Nat) (vT:Value) (wT:World)=>BD Enc.int wT (BT++O) vT ([(4:Int)])) B v w→Mv B w B2 w2→(fun (BT:List Nat) (vT:Value) (wT:World)=>BD Enc.int wT (BT++O) vT ([(4:Int)])) B2 v w2 from fun _ _ _ _ _ h m=>h.mv m),(show ∀ B B2 v w w2,(fun (BT:List Nat) (vT:Value) (wT:World)=>∃ (xT0:List Value) (xT1:Value),vT = .tuple #[.agg xT0.toArray,xT1,vI ((AO CU (kL.take 2) ([(4:Int)]) (1:Int) ([])).2.2)]∧Enc.circle.rd wT (BT++O) xT0 (kZ)∧BD Enc.share wT (BT++O) xT1 ((AO CU (kL.take 2) ([(4:Int)]) (1:Int) ([])).2.1)) B v w→Mv B w B2 w2→(fun (BT:List Nat) (vT:Value) (wT:World)=>∃ (xT0:List Value) (xT1:Value),vT = .tuple #[.agg xT0.toArray,xT1,vI ((AO CU (kL.take 2) ([(4:Int)]) (1:Int) ([])).2.2)]∧Enc.circle.rd wT (BT++O) xT0 (kZ)∧BD Enc.share wT (BT++O) xT1 ((AO CU (kL.take 2) ([(4:Int)]) (1:Int) ([])).2.1)) B2 v w2 from fun _ _ _ _ _ ⟨y0,y1,e,h0,h1⟩ m=>⟨y0,y1,e,Enc.mv _ h0 m,h1.mv m⟩),(show ∀ B B2 v w w2,(fun (BT:List Nat) (vT:Value) (wT:World)=>∃ (xT0:List Value) (xT1:Value),vT = .tuple #[.agg xT0.toArray,xT1,vI ((AO CU (kL.take 2) ([(4:Int)]) (1:Int) ([])).2.2)]∧Enc.circle.rd wT (BT++O) xT0 (kZ)∧BD Enc.share wT (BT++O) xT1 ((AO CU (kL.take 2) ([(4:Int)]) (1:Int) ([])).2.1)) B v w→Mv B w B2 w2→(fun (BT:List Nat) (vT:Value) (wT:World)=>∃ (xT0:List Value) (xT1:Value),vT = .tuple #[.agg xT0.toArray,xT1,vI ((AO CU (kL.take 2) ([(4:Int)]) (1:Int) ([])).2.2)]∧Enc.circle.rd wT (BT++O) xT0 (kZ)∧BD Enc.share wT (BT++O) xT1 ((AO CU (kL.take 2) ([(4:Int)]) (1:Int) ([])).2.1)) B2 v w2 from fun _ _ _ _ _ ⟨y0,y1,e,h0,h1⟩ m=>⟨y0,y1,e,Enc.mv _ h0 m,h1.mv m⟩),(show ∀ B B2 v w w2,(fun (BT:List Nat) (vT:Value) (wT:World)=>∃ csT:List Value,vT = .agg csT.toArray∧Enc.circle.rd wT (BT++O) csT (kZ)) B v w→Mv B w B2 w2→(fun (BT:List Nat) (vT:Value) (wT:World)=>∃ csT:List Value,vT = .agg csT.toArray∧Enc.circle.rd wT (BT++O) csT (kZ)) B2 v w2 from fun _ _ _ _ _ ⟨a,e,h⟩ m=>⟨a,e,Enc.mv _ h m⟩),(show ∀ B B2 v w w2,(fun (BT:List Nat) (vT:Value) (wT:World)=>BD Enc.share wT (BT++O) vT ((AO CU (kL.take 2) ([(4:Int)]) (1:Int) ([])).2.1)) B v w→Mv B w B2 w2→(fun (BT:List Nat) (vT:Value) (wT:World)=>BD Enc.share wT (BT++O) vT ((AO CU (kL.take 2) ([(4:Int)]) (1:Int) ([])).2.1)) B2 v w2 from fun _ _ _ _ _ h m=>h.mv m),fun _ _ _ _ _ h=>h,RS.st,trivial⟩ ⟨?_,?_,?_,?_,?_,?_,?_,?_,?_,?_,trivial⟩ ?_ ?_
  ·intro F1 w1 B1_ Bs_ k1 hs_ hl_ hr_ hsep_ hf hd
   have k0:=(Keep.drew [] w7305).trans k1
   have bx7221:=bx7221.keep k0 (by simp)
   obtain ⟨F2,rfl⟩:=AJ (F:=F1) [(1,vP (some ⟨b7081,0,none⟩))] ⟨hf 1 kR,trivial⟩
   exact AH rfl ((BM (vs:=[vI CU.epoch,vI CU.threshold,vI CU.wait,d7222,d7224]) U28_ rfl BK rfl bx7221 rfl (⟨[],(Keep.refl _ _),NW,rfl⟩)))
  ·intro F1 w1 B1_ Bs_ k1 hs_ hl_ hr_ hsep_ hf hd
   obtain ⟨F2,rfl⟩:=AJ (F:=F1) [(3,x7115)] ⟨hf 3 kR,trivial⟩
   exact AH rfl ((AG (x7115) rfl (⟨[],(Keep.refl _ _),NW,hl7116⟩)))
  ·intro F1 w1 B1_ Bs_ k1 hs_ hl_ hr_ hsep_ hf hd
   obtain ⟨v7312,e7314,hl7313⟩:∃ v,F1 138=v∧BD Enc.share w7305 ((b7133 :: (b7081 :: []))++O) v (kL):=⟨_,rfl,hd 1 138 kR kR⟩
   have:=hl7313.len_le
   obtain ⟨F2,rfl⟩:=AJ (F:=F1) [(138,v7312)] ⟨e7314,trivial⟩
   refine AH rfl ((o_sliceRU U32_ DP 0 2 rfl (.inl ⟨rfl,rfl⟩) (.inr ⟨.const (vI 2), .i64,(2:Int),rfl,rfl,rfl⟩) (by decide +kernel) (by decide +kernel) hl7313 fun v7315 hl7316=>(?_)))
   rw [List.drop_zero] at hl7316
   exact ⟨[],(Keep.refl _ _),NW,hl7316⟩
  ·intro F1 w1 B1_ Bs_ k1 hs_ hl_ hr_ hsep_ hf hd
   have k0:=(Keep.drew [] w7305).trans k1
   have s1:=s7308.adoptL k0 hl_
   obtain ⟨F2,rfl⟩:=AJ (F:=F1) [] trivial
   refine AH rfl ((IY (E:=Enc.int) (xs:=[.const (vI 4)]) U22_ MO z_3 (by decide) [vI 4] [[vI 4]] [(4:Int)] rfl rfl rfl (Parts.cons rfl rfl (Parts.nil _ _ _)) oT s1 fun v7321 w7317 s7318 m7319 k7320 hl7322=>(?_)))
   have:=hl7322.len_le
   exact ⟨[],k7320,NW,hl7322⟩
  ·intro F1 w1 B1_ Bs_ k1 hs_ hl_ hr_ hsep_ hf hd
   have k0:=(Keep.drew [] w7305).trans k1
   have s1:=s7308.adoptL k0 hl_
   have m1:Mv (b7133 :: (b7081 :: [])) w7305 B1_ w1:=Mv.adoptL k0 hl_
   have hd7223:=hd7223.mv m1
   have hd7225:=hd7225.mv m1
   obtain ⟨v7323,e7325,hl7324⟩:∃ v,F1 139=v∧BD Enc.share w7305 ((b7133 :: (b7081 :: []))++O) v ((kL.take 2)):=⟨_,rfl,hd 2 139 kR kR⟩
   have:=hl7324.len_le
   have hl7324:=hl7324.mv m1
   obtain ⟨v7326,e7328,hl7327⟩:∃ v,F1 140=v∧BD Enc.int w1 ((Bs_ 1)++O) v ([(4:Int)]):=⟨_,rfl,hd 3 140 kR kR⟩
   have:=hl7327.len_le
   have hl7327:=hl7327.mv (Mv.at_ (hr_ 1 kR))
   obtain ⟨F2,rfl⟩:=AJ (F:=F1) [(137,vA #[vI CU.epoch,vI CU.threshold,vI CU.wait,d7222,d7224]),(139,v7323),(140,v7326)] ⟨hd 0 137 kR kR,e7325,e7328,trivial⟩
   refine AH rfl ((BC (vs:=[vA #[vI CU.epoch,vI CU.threshold,vI CU.wait,d7222,d7224],v7323,v7326,vI 1,nS]) TI (QP (O:=B1_++O) [vI CU.epoch,vI CU.threshold,vI CU.wait,d7222,d7224] CU v7323 (kL.take 2) v7326 ([(4:Int)]) (1:Int) (.slice none 0 0) [] w1 ⟨_,_,rfl,hd7223,hd7225⟩ hl7324 hl7327 (BD.nil _ _ _) (by decide +kernel) s1.lt) rfl s1 fun v7329 w7330 s7331 m7332 k7333 r7334=>(?_)))
   obtain ⟨cs7335,x7337,rfl,hs7336,hl7338⟩:=r7334
   have:=hl7338.len_le
   have hs7336:Enc.circle.rd w7330 (B1_++O) cs7335 kZ:=hs7336
   exact ⟨[],k7333,NW,⟨cs7335,x7337,rfl,hs7336,hl7338⟩⟩
  ·intro F1 w1 B1_ Bs_ k1 hs_ hl_ hr_ hsep_ hf hd
   obtain ⟨cs7339,x7341,e7343,hs7340,hl7342⟩:(fun (vT:Value) (wT:World)=>∃ (xT0:List Value) (xT1:Value),vT = .tuple #[.agg xT0.toArray,xT1,vI ((AO CU (kL.take 2) ([(4:Int)]) (1:Int) ([])).2.2)]∧Enc.circle.rd wT ((Bs_ 1)++O) xT0 (kZ)∧BD Enc.share wT ((Bs_ 1)++O) xT1 ((AO CU (kL.take 2) ([(4:Int)]) (1:Int) ([])).2.1)) (F1 141) w1:=hd 4 141 kR kR
   have:=hl7342.len_le
   have hs7340:Enc.circle.rd w1 (B1_++O) cs7339 (kZ):=Enc.mv Enc.circle (x:=kZ) hs7340 (Mv.at_ (hr_ 1 kR))
   have hl7342:=hl7342.mv (Mv.at_ (hr_ 1 kR))
   obtain ⟨F2,rfl⟩:=AJ (F:=F1) [(141,vT #[vA cs7339.toArray,x7341,vI ((AO CU (kL.take 2) ([(4:Int)]) (1:Int) ([])).2.2)])] ⟨e7343,trivial⟩
   exact AH rfl ((AG (vT #[vA cs7339.toArray,x7341,vI ((AO CU (kL.take 2) ([(4:Int)]) (1:Int) ([])).2.2)]) rfl (⟨[],(Keep.refl _ _),NW,⟨cs7339,x7341,rfl,hs7340,hl7342⟩⟩)))
  ·intro F1 w1 B1_ Bs_ k1 hs_ hl_ hr_ hsep_ hf hd
   obtain ⟨cs7344,x7346,e7348,hs7345,hl7347⟩:(fun (vT:Value) (wT:World)=>∃ (xT0:List Value) (xT1:Value),vT = .tuple #[.agg xT0.toArray,xT1,vI ((AO CU (kL.take 2) ([(4:Int)]) (1:Int) ([])).2.2)]∧Enc.circle.rd wT ((Bs_ 1)++O) xT0 (kZ)∧BD Enc.share wT ((Bs_ 1)++O) xT1 ((AO CU (kL.take 2) ([(4:Int)]) (1:Int) ([])).2.1)) (F1 136) w1:=hd 5 136 kR kR
   have:=hl7347.len_le
   have hs7345:Enc.circle.rd w1 (B1_++O) cs7344 (kZ):=Enc.mv Enc.circle (x:=kZ) hs7345 (Mv.at_ (hr_ 1 kR))
   obtain ⟨F2,rfl⟩:=AJ (F:=F1) [(136,vT #[vA cs7344.toArray,x7346,vI ((AO CU (kL.take 2) ([(4:Int)]) (1:Int) ([])).2.2)])] ⟨e7348,trivial⟩
   exact AH rfl ((AK (vA cs7344.toArray) rfl rfl (⟨[],(Keep.refl _ _),NW,⟨cs7344,rfl,hs7345⟩⟩)))
  ·intro F1 w1 B1_ Bs_ k1 hs_ hl_ hr_ hsep_ hf hd
   obtain ⟨cs7349,x7351,e7353,hs7350,hl7352⟩:(fun (vT:Value) (wT:World)=>∃ (xT0:List Value) (xT1:Value),vT = .tuple #[.agg xT0.toArray,xT1,vI ((AO CU (kL.take 2) ([(4:Int)]) (1:Int) ([])).2.2)]∧Enc.circle.rd wT ((Bs_ 1)++O) xT0 (kZ)∧BD Enc.share wT ((Bs_ 1)++O) xT1 ((AO CU (kL.take 2) ([(4:Int)]) (1:Int) ([])).2.1)) (F1 136) w1:=hd 5 136 kR kR
   have:=hl7352.len_le
   have hl7352:=hl7352.mv (Mv.at_ (hr_ 1 kR))
   obtain ⟨F2,rfl⟩:=AJ (F:=F1) [(136,vT #[vA cs7349.toArray,x7351,vI ((AO CU (kL.take 2) ([(4:Int)]) (1:Int) ([])).2.2)])] ⟨e7353,trivial⟩
   exact AH rfl ((AK (x7351) rfl rfl (⟨[],(Keep.refl _ _),NW,hl7352⟩)))
  ·intro F1 w1 B1_ Bs_ k1 hs_ hl_ hr_ hsep_ hf hd
   obtain ⟨cs7354,x7356,e7358,hs7355,hl7357⟩:(fun (vT:Value) (wT:World)=>∃ (xT0:List Value) (xT1:Value),vT = .tuple #[.agg xT0.toArray,xT1,vI ((AO CU (kL.take 2) ([(4:Int)]) (1:Int) ([])).2.2)]∧Enc.circle.rd wT ((Bs_ 1)++O) xT0 (kZ)∧BD Enc.share wT ((Bs_ 1)++O) xT1 ((AO CU (kL.take 2) ([(4:Int)]) (1:Int) ([])).2.1)) (F1 136) w1:=hd 5 136 kR kR
   have:=hl7357.len_le
   obtain ⟨F2,rfl⟩:=AJ (F:=F1) [(136,vT #[vA cs7354.toArray,x7356,vI ((AO CU (kL.take 2) ([(4:Int)]) (1:Int) ([])).2.2)])] ⟨e7358,trivial⟩
   exact AH rfl ((AK (vI ((AO CU (kL.take 2) ([(4:Int)]) (1:Int) ([])).2.2)) rfl rfl (⟨[],(Keep.refl _ _),NW,rfl⟩)))
  ·intro F1 w1 B1_ Bs_ k1 hs_ hl_ hr_ hsep_ hf hd
   have k0:=(Keep.drew [] w7305).trans k1
   have s1:=s7308.adoptL k0 hl_
   obtain ⟨F2,rfl⟩:=AJ (F:=F1) [] trivial
   refine AH rfl ((CY [vI 0,vI 0,vI 0,nS,nS] KM rfl s1 fun b7359 w7360 e7365 s7361 m7362 k7363 bx7364=>(?_)))
   have lo7366:w7305.heap.size≤b7359:=by have:=k0.size;omega
   exact ⟨[],k7363,NW,⟨_,rfl,lo7366,(by intro h;have:=lt_of s1 _ h;omega),bx7364⟩⟩
  ·intro F7368 w7369 Bs7374 k7367 hB7375 hl7376 sep7377 hT7370 hF7371
   obtain ⟨b7378,e7382,lo7379,hn7380,bx7383⟩:(RS w7305 28 [vI 0,vI 0,vI 0,nS,nS]) (Bs7374 2) (F7368 19) w7369:=hT7370 9 19 kR (by decide) kR kR
   have hi7381:=bx7383.lt
   have hl7384:∀ x∈(b7133 :: (b7081 :: [])),x∈(b7133 :: (b7081 :: []))∨(w7305.heap.size≤x∧x<w7369.heap.size):=fun x hx=>.inl hx
   have hsu7385:∀ x∈(b7133 :: (b7081 :: [])),x∈(b7133 :: (b7081 :: [])):=fun x hx=>hx
   have hq7386:∀ x∈(b7133 :: (b7081 :: [])),x∈Bs7374 1:=fun x hx=>hB7375 1 x hx
   have hq7387:∀ x∈(b7133 :: (b7081 :: [])),x∈Bs7374 2:=fun x hx=>hB7375 2 x hx
   have hl7388:∀ x∈(b7378 :: (b7133 :: (b7081 :: []))),x∈(b7133 :: (b7081 :: []))∨(w7305.heap.size≤x∧x<w7369.heap.size):=fun x hx=>by rcases List.mem_cons.1 hx with rfl|hx;exact .inr ⟨lo7379,hi7381⟩;exact hl7384 x hx
   have hsu7389:∀ x∈(b7133 :: (b7081 :: [])),x∈(b7378 :: (b7133 :: (b7081 :: []))):=fun x hx=>List.mem_cons_of_mem _ (hsu7385 x hx)
   have hq7390:∀ x∈(b7378 :: (b7133 :: (b7081 :: []))),x∈Bs7374 1:=fun x hx=>by rcases List.mem_cons.1 hx with rfl|hx;exact sep7377 2 1 _ (by decide) lo7379 hi7381 hn7380;exact hq7386 x hx
   have s7372:=s7308.adoptL k7367 hl7388
   have m7373:Mv (b7133 :: (b7081 :: [])) w7305 (b7378 :: (b7133 :: (b7081 :: []))) w7369:=Mv.adoptL k7367 hl7388
   have ne7391:FO b7081 b7378:=by show b7081≠b7378;have:=bx7221.lt;omega
   have ne7392:FO b7133 b7378:=by show b7133≠b7378;have:=bx7145.lt;omega
   obtain ⟨cs7393,e7395,hs7394⟩:∃ cs:List Value,F7368 142 = .agg cs.toArray∧Enc.circle.rd w7369 ((Bs7374 1)++O) cs (kZ):=hT7370 6 142 kR (by decide) kR kR
   have hs7394:Enc.circle.rd w7369 ((b7378 :: (b7133 :: (b7081 :: [])))++O) cs7393 (kZ):=Enc.mv Enc.circle (x:=kZ) hs7394 (Mv.at_ hq7390)
   obtain ⟨v7396,e7398,hl7397⟩:∃ v,F7368 143=v∧BD Enc.share w7369 ((Bs7374 1)++O) v ((AO CU (kL.take 2) ([(4:Int)]) (1:Int) ([])).2.1):=⟨_,rfl,hT7370 7 143 kR (by decide) kR kR⟩
   have:=hl7397.len_le
   have hl7397:=hl7397.mv (Mv.at_ hq7390)
   have hl7116:=hl7116.mv m7373
   have hl7132:=hl7132.mv m7373
   have hl7273:=hl7273.mv m7373
   have hd7223:=hd7223.mv m7373
   have hd7225:=hd7225.mv m7373
   have bx7221:=bx7221.keep k7367 (by simp)
   have hd7147:=hd7147.mv m7373
   have hd7149:=hd7149.mv m7373
   have bx7145:=bx7145.keep k7367 (by simp)
   obtain ⟨F2,rfl⟩:=AJ (F:=F7368) [(1,vP (some ⟨b7081,0,none⟩)),(3,x7115),(5,vP (some ⟨b7133,0,none⟩)),(6,x7131),(11,vI ((BO kA ((AU kC (1:Int)).2.1) kL).2)),(15,v7272),(16,vI ((BO CU ((AU kC (1:Int)).2.1) (kL.drop 1)).2)),(18,vI ((BO CU ((AU kC (1:Int)).2.1) (((AR kC kL ([(4:UInt8)])).2.1).drop 1)).2)),(252,undef),(19,vP (some ⟨b7378,0,none⟩)),(142,vA cs7393.toArray),(143,v7396),(144,vI ((AO CU (kL.take 2) ([(4:Int)]) (1:Int) ([])).2.2))] ⟨hF7371 1 kR,hF7371 3 kR,hF7371 5 kR,hF7371 6 kR,hF7371 11 kR,hF7371 15 kR,hF7371 16 kR,hF7371 18 kR,hF7371 252 kR,e7382,e7395,e7398,hT7370 8 144 kR (by decide) kR kR,trivial⟩
   clear hT7370 hF7371 hB7375 hl7376 sep7377
   obtain ⟨d7404,d7406,rfl,hd7405,hd7407⟩:=hs7394
   have:=hd7405.len_le
   have:=hd7407.len_le
   refine BW (BA (vs:=[vI kZ.epoch,vI kZ.threshold,vI kZ.wait,d7404,d7406]) (.agg #[vI kZ.epoch,vI kZ.threshold,vI kZ.wait,d7404,d7406]) rfl rfl rfl BK (fun u hu=>by simp only [List.mem_cons,List.not_mem_nil,or_false] at hu;rcases hu with rfl|rfl|rfl|rfl|rfl <;> first|rfl|exact hd7405.oneCell|exact hd7407.oneCell) (by repeat (constructor)) bx7383 oT s7372 fun w7399 s7400 m7401 k7402 bx7403=>(?_))
   have hl7116:=hl7116.mv m7401
   have hl7132:=hl7132.mv m7401
   have hl7273:=hl7273.mv m7401
   have hd7405:=hd7405.mv m7401
   have hd7407:=hd7407.mv m7401
   have hl7397:=hl7397.mv m7401
   have hd7223:=hd7223.mv m7401
   have hd7225:=hd7225.mv m7401
   have bx7221:=bx7221.keep k7402 (BG ne7391)
   have hd7147:=hd7147.mv m7401
   have hd7149:=hd7149.mv m7401
   have bx7145:=bx7145.keep k7402 (BG ne7392)
   refine AA (AD (v7396) rfl (AA (AD (vI ((AO CU (kL.take 2) ([(4:Int)]) (1:Int) ([])).2.2)) rfl (AF (AC (?_))))))
   exact ⟨b7378,d7404,d7406,v7396,(b7378 :: (b7133 :: (b7081 :: []))),trivial,⟨_,AY _ ⟨rfl,rfl,rfl,rfl,rfl,rfl,rfl,rfl,rfl,rfl,(by rfl),rfl,trivial⟩⟩,s7400,(by rw [show kW=(AO CU (kL.take 2) ([(4:Int)]) (1:Int) ([])).2.1 from rfl];exact hl7397),hl7116,hl7132,hl7273,hd7223,hd7225,bx7221,(by (repeat (first|exact List.mem_cons_self|apply List.mem_cons_of_mem))),hd7147,hd7149,bx7145,(by (repeat (first|exact List.mem_cons_self|apply List.mem_cons_of_mem))),bx7403,hd7405,hd7407,(by repeat (constructor)),ne7391,ne7392⟩
  ·intro cx_ hcx_
   match cx_,hcx_ with
   | 0,_=>
    intro F7409 w7410 Bs7415 k7408 hB7416 hl7417 sep7418 hT7411 hF7412
    obtain ⟨b7419,e7423,lo7420,hn7421,bx7424⟩:(RS w7305 28 [vI 0,vI 0,vI 0,nS,nS]) (Bs7415 2) (F7409 19) w7410:=hT7411 9 19 kR (by decide) kR kR
    have hi7422:=bx7424.lt
    have hl7425:∀ x∈(b7133 :: (b7081 :: [])),x∈(b7133 :: (b7081 :: []))∨(w7305.heap.size≤x∧x<w7410.heap.size):=fun x hx=>.inl hx
    have hsu7426:∀ x∈(b7133 :: (b7081 :: [])),x∈(b7133 :: (b7081 :: [])):=fun x hx=>hx
    have hq7427:∀ x∈(b7133 :: (b7081 :: [])),x∈Bs7415 1:=fun x hx=>hB7416 1 x hx
    have hq7428:∀ x∈(b7133 :: (b7081 :: [])),x∈Bs7415 2:=fun x hx=>hB7416 2 x hx
    have hl7429:∀ x∈(b7419 :: (b7133 :: (b7081 :: []))),x∈(b7133 :: (b7081 :: []))∨(w7305.heap.size≤x∧x<w7410.heap.size):=fun x hx=>by rcases List.mem_cons.1 hx with rfl|hx;exact .inr ⟨lo7420,hi7422⟩;exact hl7425 x hx
    have hsu7430:∀ x∈(b7133 :: (b7081 :: [])),x∈(b7419 :: (b7133 :: (b7081 :: []))):=fun x hx=>List.mem_cons_of_mem _ (hsu7426 x hx)
    have hq7431:∀ x∈(b7419 :: (b7133 :: (b7081 :: []))),x∈Bs7415 1:=fun x hx=>by rcases List.mem_cons.1 hx with rfl|hx;exact sep7418 2 1 _ (by decide) lo7420 hi7422 hn7421;exact hq7427 x hx
    have s7413:=s7308.adoptL k7408 hl7429
    have m7414:Mv (b7133 :: (b7081 :: [])) w7305 (b7419 :: (b7133 :: (b7081 :: []))) w7410:=Mv.adoptL k7408 hl7429
    have ne7432:FO b7081 b7419:=by show b7081≠b7419;have:=bx7221.lt;omega
    have ne7433:FO b7133 b7419:=by show b7133≠b7419;have:=bx7145.lt;omega
    obtain ⟨cs7434,x7436,e7438,hs7435,hl7437⟩:(fun (vT:Value) (wT:World)=>∃ (xT0:List Value) (xT1:Value),vT = .tuple #[.agg xT0.toArray,xT1,vI ((AO CU (kL.take 2) ([(4:Int)]) (1:Int) ([])).2.2)]∧Enc.circle.rd wT ((Bs7415 1)++O) xT0 (kZ)∧BD Enc.share wT ((Bs7415 1)++O) xT1 ((AO CU (kL.take 2) ([(4:Int)]) (1:Int) ([])).2.1)) (F7409 136) w7410:=hT7411 5 136 kR (by decide) kR kR
    have:=hl7437.len_le
    have hl7437:=hl7437.mv (Mv.at_ hq7431)
    obtain ⟨cs7439,e7441,hs7440⟩:∃ cs:List Value,F7409 142 = .agg cs.toArray∧Enc.circle.rd w7410 ((Bs7415 1)++O) cs (kZ):=hT7411 6 142 kR (by decide) kR kR
    have hs7440:Enc.circle.rd w7410 ((b7419 :: (b7133 :: (b7081 :: [])))++O) cs7439 (kZ):=Enc.mv Enc.circle (x:=kZ) hs7440 (Mv.at_ hq7431)
    have hl7116:=hl7116.mv m7414
    have hl7132:=hl7132.mv m7414
    have hl7273:=hl7273.mv m7414
    have hd7223:=hd7223.mv m7414
    have hd7225:=hd7225.mv m7414
    have bx7221:=bx7221.keep k7408 (by simp)
    have hd7147:=hd7147.mv m7414
    have hd7149:=hd7149.mv m7414
    have bx7145:=bx7145.keep k7408 (by simp)
    obtain ⟨F2,rfl⟩:=AJ (F:=F7409) [(1,vP (some ⟨b7081,0,none⟩)),(3,x7115),(5,vP (some ⟨b7133,0,none⟩)),(6,x7131),(11,vI ((BO kA ((AU kC (1:Int)).2.1) kL).2)),(15,v7272),(16,vI ((BO CU ((AU kC (1:Int)).2.1) (kL.drop 1)).2)),(18,vI ((BO CU ((AU kC (1:Int)).2.1) (((AR kC kL ([(4:UInt8)])).2.1).drop 1)).2)),(252,undef),(19,vP (some ⟨b7419,0,none⟩)),(136,vT #[vA cs7434.toArray,x7436,vI ((AO CU (kL.take 2) ([(4:Int)]) (1:Int) ([])).2.2)]),(142,vA cs7439.toArray),(144,vI ((AO CU (kL.take 2) ([(4:Int)]) (1:Int) ([])).2.2))] ⟨hF7412 1 kR,hF7412 3 kR,hF7412 5 kR,hF7412 6 kR,hF7412 11 kR,hF7412 15 kR,hF7412 16 kR,hF7412 18 kR,hF7412 252 kR,e7423,e7438,e7441,hT7411 8 144 kR (by decide) kR kR,trivial⟩
    clear hT7411 hF7412 hB7416 hl7417 sep7418
    obtain ⟨d7447,d7449,rfl,hd7448,hd7450⟩:=hs7440
    have:=hd7448.len_le
    have:=hd7450.len_le
    refine BW (BA (vs:=[vI kZ.epoch,vI kZ.threshold,vI kZ.wait,d7447,d7449]) (.agg #[vI kZ.epoch,vI kZ.threshold,vI kZ.wait,d7447,d7449]) rfl rfl rfl BK (fun u hu=>by simp only [List.mem_cons,List.not_mem_nil,or_false] at hu;rcases hu with rfl|rfl|rfl|rfl|rfl <;> first|rfl|exact hd7448.oneCell|exact hd7450.oneCell) (by repeat (constructor)) bx7424 oT s7413 fun w7442 s7443 m7444 k7445 bx7446=>(?_))
    have hl7116:=hl7116.mv m7444
    have hl7132:=hl7132.mv m7444
    have hl7273:=hl7273.mv m7444
    have hl7437:=hl7437.mv m7444
    have hd7448:=hd7448.mv m7444
    have hd7450:=hd7450.mv m7444
    have hd7223:=hd7223.mv m7444
    have hd7225:=hd7225.mv m7444
    have bx7221:=bx7221.keep k7445 (BG ne7432)
    have hd7147:=hd7147.mv m7444
    have hd7149:=hd7149.mv m7444
    have bx7145:=bx7145.keep k7445 (BG ne7433)
    refine AA (AK (x7436) rfl rfl (AA (AD (x7436) rfl (AA (AD (vI ((AO CU (kL.take 2) ([(4:Int)]) (1:Int) ([])).2.2)) rfl (AF (AC (?_))))))))
    exact ⟨b7419,d7447,d7449,x7436,(b7419 :: (b7133 :: (b7081 :: []))),trivial,⟨_,AY _ ⟨rfl,rfl,rfl,rfl,rfl,rfl,rfl,rfl,rfl,rfl,(by rfl),rfl,trivial⟩⟩,s7443,(by rw [show kW=(AO CU (kL.take 2) ([(4:Int)]) (1:Int) ([])).2.1 from rfl];exact hl7437),hl7116,hl7132,hl7273,hd7223,hd7225,bx7221,(by (repeat (first|exact List.mem_cons_self|apply List.mem_cons_of_mem))),hd7147,hd7149,bx7145,(by (repeat (first|exact List.mem_cons_self|apply List.mem_cons_of_mem))),bx7446,hd7448,hd7450,(by repeat (constructor)),ne7432,ne7433⟩
   | 1,_=>
    intro F7452 w7453 Bs7458 k7451 hB7459 hl7460 sep7461 hT7454 hF7455
    obtain ⟨b7462,e7466,lo7463,hn7464,bx7467⟩:(RS w7305 28 [vI 0,vI 0,vI 0,nS,nS]) (Bs7458 2) (F7452 19) w7453:=hT7454 9 19 kR (by decide) kR kR
    have hi7465:=bx7467.lt
    have hl7468:∀ x∈(b7133 :: (b7081 :: [])),x∈(b7133 :: (b7081 :: []))∨(w7305.heap.size≤x∧x<w7453.heap.size):=fun x hx=>.inl hx
    have hsu7469:∀ x∈(b7133 :: (b7081 :: [])),x∈(b7133 :: (b7081 :: [])):=fun x hx=>hx
    have hq7470:∀ x∈(b7133 :: (b7081 :: [])),x∈Bs7458 1:=fun x hx=>hB7459 1 x hx
    have hq7471:∀ x∈(b7133 :: (b7081 :: [])),x∈Bs7458 2:=fun x hx=>hB7459 2 x hx
    have hl7472:∀ x∈(b7462 :: (b7133 :: (b7081 :: []))),x∈(b7133 :: (b7081 :: []))∨(w7305.heap.size≤x∧x<w7453.heap.size):=fun x hx=>by rcases List.mem_cons.1 hx with rfl|hx;exact .inr ⟨lo7463,hi7465⟩;exact hl7468 x hx
    have hsu7473:∀ x∈(b7133 :: (b7081 :: [])),x∈(b7462 :: (b7133 :: (b7081 :: []))):=fun x hx=>List.mem_cons_of_mem _ (hsu7469 x hx)
    have hq7474:∀ x∈(b7462 :: (b7133 :: (b7081 :: []))),x∈Bs7458 1:=fun x hx=>by rcases List.mem_cons.1 hx with rfl|hx;exact sep7461 2 1 _ (by decide) lo7463 hi7465 hn7464;exact hq7470 x hx
    have s7456:=s7308.adoptL k7451 hl7472
    have m7457:Mv (b7133 :: (b7081 :: [])) w7305 (b7462 :: (b7133 :: (b7081 :: []))) w7453:=Mv.adoptL k7451 hl7472
    have ne7475:FO b7081 b7462:=by show b7081≠b7462;have:=bx7221.lt;omega
    have ne7476:FO b7133 b7462:=by show b7133≠b7462;have:=bx7145.lt;omega
    obtain ⟨cs7477,x7479,e7481,hs7478,hl7480⟩:(fun (vT:Value) (wT:World)=>∃ (xT0:List Value) (xT1:Value),vT = .tuple #[.agg xT0.toArray,xT1,vI ((AO CU (kL.take 2) ([(4:Int)]) (1:Int) ([])).2.2)]∧Enc.circle.rd wT ((Bs7458 1)++O) xT0 (kZ)∧BD Enc.share wT ((Bs7458 1)++O) xT1 ((AO CU (kL.take 2) ([(4:Int)]) (1:Int) ([])).2.1)) (F7452 136) w7453:=hT7454 5 136 kR (by decide) kR kR
    have:=hl7480.len_le
    obtain ⟨cs7482,e7484,hs7483⟩:∃ cs:List Value,F7452 142 = .agg cs.toArray∧Enc.circle.rd w7453 ((Bs7458 1)++O) cs (kZ):=hT7454 6 142 kR (by decide) kR kR
    have hs7483:Enc.circle.rd w7453 ((b7462 :: (b7133 :: (b7081 :: [])))++O) cs7482 (kZ):=Enc.mv Enc.circle (x:=kZ) hs7483 (Mv.at_ hq7474)
    obtain ⟨v7485,e7487,hl7486⟩:∃ v,F7452 143=v∧BD Enc.share w7453 ((Bs7458 1)++O) v ((AO CU (kL.take 2) ([(4:Int)]) (1:Int) ([])).2.1):=⟨_,rfl,hT7454 7 143 kR (by decide) kR kR⟩
    have:=hl7486.len_le
    have hl7486:=hl7486.mv (Mv.at_ hq7474)
    have hl7116:=hl7116.mv m7457
    have hl7132:=hl7132.mv m7457
    have hl7273:=hl7273.mv m7457
    have hd7223:=hd7223.mv m7457
    have hd7225:=hd7225.mv m7457
    have bx7221:=bx7221.keep k7451 (by simp)
    have hd7147:=hd7147.mv m7457
    have hd7149:=hd7149.mv m7457
    have bx7145:=bx7145.keep k7451 (by simp)
    obtain ⟨F2,rfl⟩:=AJ (F:=F7452) [(1,vP (some ⟨b7081,0,none⟩)),(3,x7115),(5,vP (some ⟨b7133,0,none⟩)),(6,x7131),(11,vI ((BO kA ((AU kC (1:Int)).2.1) kL).2)),(15,v7272),(16,vI ((BO CU ((AU kC (1:Int)).2.1) (kL.drop 1)).2)),(18,vI ((BO CU ((AU kC (1:Int)).2.1) (((AR kC kL ([(4:UInt8)])).2.1).drop 1)).2)),(252,undef),(19,vP (some ⟨b7462,0,none⟩)),(136,vT #[vA cs7477.toArray,x7479,vI ((AO CU (kL.take 2) ([(4:Int)]) (1:Int) ([])).2.2)]),(142,vA cs7482.toArray),(143,v7485)] ⟨hF7455 1 kR,hF7455 3 kR,hF7455 5 kR,hF7455 6 kR,hF7455 11 kR,hF7455 15 kR,hF7455 16 kR,hF7455 18 kR,hF7455 252 kR,e7466,e7481,e7484,e7487,trivial⟩
    clear hT7454 hF7455 hB7459 hl7460 sep7461
    obtain ⟨d7493,d7495,rfl,hd7494,hd7496⟩:=hs7483
    have:=hd7494.len_le
    have:=hd7496.len_le
    refine BW (BA (vs:=[vI kZ.epoch,vI kZ.threshold,vI kZ.wait,d7493,d7495]) (.agg #[vI kZ.epoch,vI kZ.threshold,vI kZ.wait,d7493,d7495]) rfl rfl rfl BK (fun u hu=>by simp only [List.mem_cons,List.not_mem_nil,or_false] at hu;rcases hu with rfl|rfl|rfl|rfl|rfl <;> first|rfl|exact hd7494.oneCell|exact hd7496.oneCell) (by repeat (constructor)) bx7467 oT s7456 fun w7488 s7489 m7490 k7491 bx7492=>(?_))
    have hl7116:=hl7116.mv m7490
    have hl7132:=hl7132.mv m7490
    have hl7273:=hl7273.mv m7490
    have hd7494:=hd7494.mv m7490
    have hd7496:=hd7496.mv m7490
    have hl7486:=hl7486.mv m7490
    have hd7223:=hd7223.mv m7490
    have hd7225:=hd7225.mv m7490
    have bx7221:=bx7221.keep k7491 (BG ne7475)
    have hd7147:=hd7147.mv m7490
    have hd7149:=hd7149.mv m7490
    have bx7145:=bx7145.keep k7491 (BG ne7476)
    refine AA (AK (vI ((AO CU (kL.take 2) ([(4:Int)]) (1:Int) ([])).2.2)) rfl rfl (AA (AD (v7485) rfl (AA (AD (vI ((AO CU (kL.take 2) ([(4:Int)]) (1:Int) ([])).2.2)) rfl (AF (AC (?_))))))))
    exact ⟨b7462,d7493,d7495,v7485,(b7462 :: (b7133 :: (b7081 :: []))),trivial,⟨_,AY _ ⟨rfl,rfl,rfl,rfl,rfl,rfl,rfl,rfl,rfl,rfl,(by rfl),rfl,trivial⟩⟩,s7489,(by rw [show kW=(AO CU (kL.take 2) ([(4:Int)]) (1:Int) ([])).2.1 from rfl];exact hl7486),hl7116,hl7132,hl7273,hd7223,hd7225,bx7221,(by (repeat (first|exact List.mem_cons_self|apply List.mem_cons_of_mem))),hd7147,hd7149,bx7145,(by (repeat (first|exact List.mem_cons_self|apply List.mem_cons_of_mem))),bx7492,hd7494,hd7496,(by repeat (constructor)),ne7475,ne7476⟩
   | 2,_=>
    intro F7498 w7499 Bs7504 k7497 hB7505 hl7506 sep7507 hT7500 hF7501
    obtain ⟨b7508,e7512,lo7509,hn7510,bx7513⟩:(RS w7305 28 [vI 0,vI 0,vI 0,nS,nS]) (Bs7504 2) (F7498 19) w7499:=hT7500 9 19 kR (by decide) kR kR
    have hi7511:=bx7513.lt
    have hl7514:∀ x∈(b7133 :: (b7081 :: [])),x∈(b7133 :: (b7081 :: []))∨(w7305.heap.size≤x∧x<w7499.heap.size):=fun x hx=>.inl hx
    have hsu7515:∀ x∈(b7133 :: (b7081 :: [])),x∈(b7133 :: (b7081 :: [])):=fun x hx=>hx
    have hq7516:∀ x∈(b7133 :: (b7081 :: [])),x∈Bs7504 1:=fun x hx=>hB7505 1 x hx
    have hq7517:∀ x∈(b7133 :: (b7081 :: [])),x∈Bs7504 2:=fun x hx=>hB7505 2 x hx
    have hl7518:∀ x∈(b7508 :: (b7133 :: (b7081 :: []))),x∈(b7133 :: (b7081 :: []))∨(w7305.heap.size≤x∧x<w7499.heap.size):=fun x hx=>by rcases List.mem_cons.1 hx with rfl|hx;exact .inr ⟨lo7509,hi7511⟩;exact hl7514 x hx
    have hsu7519:∀ x∈(b7133 :: (b7081 :: [])),x∈(b7508 :: (b7133 :: (b7081 :: []))):=fun x hx=>List.mem_cons_of_mem _ (hsu7515 x hx)
    have hq7520:∀ x∈(b7508 :: (b7133 :: (b7081 :: []))),x∈Bs7504 1:=fun x hx=>by rcases List.mem_cons.1 hx with rfl|hx;exact sep7507 2 1 _ (by decide) lo7509 hi7511 hn7510;exact hq7516 x hx
    have s7502:=s7308.adoptL k7497 hl7518
    have m7503:Mv (b7133 :: (b7081 :: [])) w7305 (b7508 :: (b7133 :: (b7081 :: []))) w7499:=Mv.adoptL k7497 hl7518
    have ne7521:FO b7081 b7508:=by show b7081≠b7508;have:=bx7221.lt;omega
    have ne7522:FO b7133 b7508:=by show b7133≠b7508;have:=bx7145.lt;omega
    obtain ⟨cs7523,x7525,e7527,hs7524,hl7526⟩:(fun (vT:Value) (wT:World)=>∃ (xT0:List Value) (xT1:Value),vT = .tuple #[.agg xT0.toArray,xT1,vI ((AO CU (kL.take 2) ([(4:Int)]) (1:Int) ([])).2.2)]∧Enc.circle.rd wT ((Bs7504 1)++O) xT0 (kZ)∧BD Enc.share wT ((Bs7504 1)++O) xT1 ((AO CU (kL.take 2) ([(4:Int)]) (1:Int) ([])).2.1)) (F7498 136) w7499:=hT7500 5 136 kR (by decide) kR kR
    have:=hl7526.len_le
    have hl7526:=hl7526.mv (Mv.at_ hq7520)
    obtain ⟨cs7528,e7530,hs7529⟩:∃ cs:List Value,F7498 142 = .agg cs.toArray∧Enc.circle.rd w7499 ((Bs7504 1)++O) cs (kZ):=hT7500 6 142 kR (by decide) kR kR
    have hs7529:Enc.circle.rd w7499 ((b7508 :: (b7133 :: (b7081 :: [])))++O) cs7528 (kZ):=Enc.mv Enc.circle (x:=kZ) hs7529 (Mv.at_ hq7520)
    have hl7116:=hl7116.mv m7503
    have hl7132:=hl7132.mv m7503
    have hl7273:=hl7273.mv m7503
    have hd7223:=hd7223.mv m7503
    have hd7225:=hd7225.mv m7503
    have bx7221:=bx7221.keep k7497 (by simp)
    have hd7147:=hd7147.mv m7503
    have hd7149:=hd7149.mv m7503
    have bx7145:=bx7145.keep k7497 (by simp)
    obtain ⟨F2,rfl⟩:=AJ (F:=F7498) [(1,vP (some ⟨b7081,0,none⟩)),(3,x7115),(5,vP (some ⟨b7133,0,none⟩)),(6,x7131),(11,vI ((BO kA ((AU kC (1:Int)).2.1) kL).2)),(15,v7272),(16,vI ((BO CU ((AU kC (1:Int)).2.1) (kL.drop 1)).2)),(18,vI ((BO CU ((AU kC (1:Int)).2.1) (((AR kC kL ([(4:UInt8)])).2.1).drop 1)).2)),(252,undef),(19,vP (some ⟨b7508,0,none⟩)),(136,vT #[vA cs7523.toArray,x7525,vI ((AO CU (kL.take 2) ([(4:Int)]) (1:Int) ([])).2.2)]),(142,vA cs7528.toArray)] ⟨hF7501 1 kR,hF7501 3 kR,hF7501 5 kR,hF7501 6 kR,hF7501 11 kR,hF7501 15 kR,hF7501 16 kR,hF7501 18 kR,hF7501 252 kR,e7512,e7527,e7530,trivial⟩
    clear hT7500 hF7501 hB7505 hl7506 sep7507
    obtain ⟨d7536,d7538,rfl,hd7537,hd7539⟩:=hs7529
    have:=hd7537.len_le
    have:=hd7539.len_le
    refine BW (BA (vs:=[vI kZ.epoch,vI kZ.threshold,vI kZ.wait,d7536,d7538]) (.agg #[vI kZ.epoch,vI kZ.threshold,vI kZ.wait,d7536,d7538]) rfl rfl rfl BK (fun u hu=>by simp only [List.mem_cons,List.not_mem_nil,or_false] at hu;rcases hu with rfl|rfl|rfl|rfl|rfl <;> first|rfl|exact hd7537.oneCell|exact hd7539.oneCell) (by repeat (constructor)) bx7513 oT s7502 fun w7531 s7532 m7533 k7534 bx7535=>(?_))
    have hl7116:=hl7116.mv m7533
    have hl7132:=hl7132.mv m7533
    have hl7273:=hl7273.mv m7533
    have hl7526:=hl7526.mv m7533
    have hd7537:=hd7537.mv m7533
    have hd7539:=hd7539.mv m7533
    have hd7223:=hd7223.mv m7533
    have hd7225:=hd7225.mv m7533
    have bx7221:=bx7221.keep k7534 (BG ne7521)
    have hd7147:=hd7147.mv m7533
    have hd7149:=hd7149.mv m7533
    have bx7145:=bx7145.keep k7534 (BG ne7522)
    refine AA (AK (x7525) rfl rfl (AA (AK (vI ((AO CU (kL.take 2) ([(4:Int)]) (1:Int) ([])).2.2)) rfl rfl (AA (AD (x7525) rfl (AA (AD (vI ((AO CU (kL.take 2) ([(4:Int)]) (1:Int) ([])).2.2)) rfl (AF (AC (?_))))))))))
    exact ⟨b7508,d7536,d7538,x7525,(b7508 :: (b7133 :: (b7081 :: []))),trivial,⟨_,AY _ ⟨rfl,rfl,rfl,rfl,rfl,rfl,rfl,rfl,rfl,rfl,(by rfl),rfl,trivial⟩⟩,s7532,(by rw [show kW=(AO CU (kL.take 2) ([(4:Int)]) (1:Int) ([])).2.1 from rfl];exact hl7526),hl7116,hl7132,hl7273,hd7223,hd7225,bx7221,(by (repeat (first|exact List.mem_cons_self|apply List.mem_cons_of_mem))),hd7147,hd7149,bx7145,(by (repeat (first|exact List.mem_cons_self|apply List.mem_cons_of_mem))),bx7535,hd7537,hd7539,(by repeat (constructor)),ne7521,ne7522⟩
 ·intro F wlc146 hI
  clear hl7116 hl7132 hl7273 hd7223 hd7225 bx7221 hd7147 hd7149 bx7145
  obtain ⟨bnc146_19,vnc146_19_3,vnc146_19_4,vrc146_20,Blc146,hmc146,⟨Flc146,rfl⟩,slc146,hrdc146_20,hl7116,hl7132,hl7273,hd7223,hd7225,bx7221,hin_b7081,hd7147,hd7149,bx7145,hin_b7133,hbn_bnc146_19,hvnc146_19_3,hvnc146_19_4,hin_bnc146_19,nebnc146_19_b7081,nebnc146_19_b7133⟩:=hI
  have:=hrdc146_20.len_le
  have:=hvnc146_19_3.len_le
  have:=hvnc146_19_4.len_le
  refine AE (?_)
  refine AB kR (AA (ED (l:=[]) RO KM rfl [] [vI 0,vI 0,vI 0,nS,nS] rfl rfl (AA (BC (vs:=[vA #[vI 0,vI 0,vI 0,nS,nS],nS,nS]) MX (TW (O:=Blc146++O) [vI 0,vI 0,vI 0,nS,nS] (⟨(0:Int),(0:Int),(0:Int),[],[]⟩:Circle) (.slice none 0 0) [] (.slice none 0 0) [] wlc146 ⟨.slice none 0 0, .slice none 0 0,rfl,(BD.nil _ _ _),(BD.nil _ _ _)⟩ (BD.nil _ _ _) (BD.nil _ _ _) slc146.lt) rfl slc146 fun v7540 w7541 s7542 m7543 k7544 r7545=>(?_)))))
  obtain ⟨x7546,rfl,hl7547⟩:=r7545
  have:=hl7547.len_le
  have hl7116:=hl7116.mv m7543
  have hl7132:=hl7132.mv m7543
  have hl7273:=hl7273.mv m7543
  have hrdc146_20:=hrdc146_20.mv m7543
  have hd7223:=hd7223.mv m7543
  have hd7225:=hd7225.mv m7543
  have bx7221:=bx7221.keep k7544 (by simp)
  have hd7147:=hd7147.mv m7543
  have hd7149:=hd7149.mv m7543
  have bx7145:=bx7145.keep k7544 (by simp)
  have hbn_bnc146_19:=hbn_bnc146_19.keep k7544 (by simp)
  refine AA (AG (vT #[x7546,vI ((CM (⟨(0:Int),(0:Int),(0:Int),[],[]⟩:Circle) ([]) ([])).2)]) rfl (AA (AK (x7546) rfl rfl (AA (AK (vI ((CM (⟨(0:Int),(0:Int),(0:Int),[],[]⟩:Circle) ([]) ([])).2)) rfl rfl (AA (AD (x7546) rfl (AA (AD (vI ((CM (⟨(0:Int),(0:Int),(0:Int),[],[]⟩:Circle) ([]) ([])).2)) rfl (AF (AC (?_))))))))))))
  refine AE (?_)
  refine AB kR (AA (BM (vs:=[vI CU.epoch,vI CU.threshold,vI CU.wait,d7222,d7224]) U28_ rfl BK rfl bx7221 rfl (AA (BC (vs:=[vA #[vI CU.epoch,vI CU.threshold,vI CU.wait,d7222,d7224],nS,nS]) PX (RW (O:=Blc146++O) [vI CU.epoch,vI CU.threshold,vI CU.wait,d7222,d7224] CU (.slice none 0 0) [] (.slice none 0 0) [] w7541 ⟨_,_,rfl,hd7223,hd7225⟩ (BD.nil _ _ _) (BD.nil _ _ _) s7542.lt) rfl s7542 fun v7548 w7549 s7550 m7551 k7552 r7553=>(?_)))))
  obtain ⟨cs7554,x7556,rfl,hs7555,hl7557⟩:=r7553
  have:=hl7557.len_le
  have hl7116:=hl7116.mv m7551
  have hl7132:=hl7132.mv m7551
  have hl7273:=hl7273.mv m7551
  have hrdc146_20:=hrdc146_20.mv m7551
  have bx7221:=bx7221.keep k7552 (by simp)
  have hd7147:=hd7147.mv m7551
  have hd7149:=hd7149.mv m7551
  have bx7145:=bx7145.keep k7552 (by simp)
  have hbn_bnc146_19:=hbn_bnc146_19.keep k7552 (by simp)
  refine AA (AG (vT #[vA cs7554.toArray,x7556,vI ((AR CU ([]) ([])).2.2)]) rfl (AA (AK (vA cs7554.toArray) rfl rfl (AA (AK (x7556) rfl rfl (AA (AK (vI ((AR CU ([]) ([])).2.2)) rfl rfl (AA (CY [vI 0,vI 0,vI 0,nS,nS] KM rfl s7550 fun b7558 w7559 e7564 s7560 m7561 k7562 bx7563=>(?_))))))))))
  have ne7565:FO b7081 b7558:=by show b7081≠b7558;have:=bx7221.lt;omega
  have ne7566:FO b7133 b7558:=by show b7133≠b7558;have:=bx7145.lt;omega
  have ne7567:FO bnc146_19 b7558:=by show bnc146_19≠b7558;have:=hbn_bnc146_19.lt;omega
  clear e7564
  have hl7116:=hl7116.mv m7561
  have hl7132:=hl7132.mv m7561
  have hl7273:=hl7273.mv m7561
  have hrdc146_20:=hrdc146_20.mv m7561
  have hs7555:Enc.circle.rd w7559 ((b7558 :: Blc146)++O) cs7554 ((AR CU ([]) ([])).1):=Enc.mv Enc.circle (x:=(AR CU ([]) ([])).1) hs7555 m7561
  have hd7147:=hd7147.mv m7561
  have hd7149:=hd7149.mv m7561
  have bx7145:=bx7145.keep k7562 (by simp)
  have hbn_bnc146_19:=hbn_bnc146_19.keep k7562 (by simp)
  obtain ⟨d7573,d7575,rfl,hd7574,hd7576⟩:=hs7555
  have:=hd7574.len_le
  have:=hd7576.len_le
  refine BW (BA (vs:=[vI (((AR CU ([]) ([])).1).epoch),vI (((AR CU ([]) ([])).1).threshold),vI (((AR CU ([]) ([])).1).wait),d7573,d7575]) (.agg #[vI (((AR CU ([]) ([])).1).epoch),vI (((AR CU ([]) ([])).1).threshold),vI (((AR CU ([]) ([])).1).wait),d7573,d7575]) rfl rfl rfl BK (fun u hu=>by simp only [List.mem_cons,List.not_mem_nil,or_false] at hu;rcases hu with rfl|rfl|rfl|rfl|rfl <;> first|rfl|exact hd7574.oneCell|exact hd7576.oneCell) (by repeat (constructor)) bx7563 oT s7560 fun w7568 s7569 m7570 k7571 bx7572=>(?_))
  have hl7116:=hl7116.mv m7570
  have hl7132:=hl7132.mv m7570
  have hl7273:=hl7273.mv m7570
  have hrdc146_20:=hrdc146_20.mv m7570
  have hd7147:=hd7147.mv m7570
  have hd7149:=hd7149.mv m7570
  have bx7145:=bx7145.keep k7571 (BG ne7566)
  have hbn_bnc146_19:=hbn_bnc146_19.keep k7571 (BG ne7567)
  refine AA (AD (x7556) rfl (AA (AD (vI ((AR CU ([]) ([])).2.2)) rfl (AF (AC (?_))))))
  refine AE (?_)
  refine AB kR (AA (BM (vs:=[vI kX.epoch,vI kX.threshold,vI kX.wait,d7146,d7148]) U28_ rfl BK rfl bx7145 rfl (AA (AG (x7131) rfl (AA (BC (vs:=[vA #[vI kX.epoch,vI kX.threshold,vI kX.wait,d7146,d7148],vI 0,x7131]) NL (SY (O:=(b7558 :: Blc146)++O) [vI kX.epoch,vI kX.threshold,vI kX.wait,d7146,d7148] kX (0:Int) x7131 ((AR kC kL ([(4:UInt8)])).2.1) w7568 ⟨_,_,rfl,hd7147,hd7149⟩ hl7132 s7569.lt) rfl s7569 fun v7577 w7578 s7579 m7580 k7581 r7582=>(?_)))))))
  obtain ⟨x7583,rfl,hl7584⟩:=r7582
  have:=hl7584.len_le
  have hl7116:=hl7116.mv m7580
  have hl7132:=hl7132.mv m7580
  have hl7273:=hl7273.mv m7580
  have hrdc146_20:=hrdc146_20.mv m7580
  have bx7145:=bx7145.keep k7581 (by simp)
  have hbn_bnc146_19:=hbn_bnc146_19.keep k7581 (by simp)
  refine AA (AG (vT #[x7583,vI ((BO kX (0:Int) ((AR kC kL ([(4:UInt8)])).2.1)).2)]) rfl (AA (AK (x7583) rfl rfl (AA (AK (vI ((BO kX (0:Int) ((AR kC kL ([(4:UInt8)])).2.1)).2)) rfl rfl (AA (AD (x7583) rfl (AA (AD (vI ((BO kX (0:Int) ((AR kC kL ([(4:UInt8)])).2.1)).2)) rfl (AF (AC (?_))))))))))))
  refine AE (?_)
  refine AB kR (AA (BC (vs:=[nS,nS,nS]) enter_18 (c_mixed (O:=(b7558 :: Blc146)++O) (.slice none 0 0) [] (.slice none 0 0) [] (.slice none 0 0) [] w7578 (BD.nil _ _ _) (BD.nil _ _ _) (BD.nil _ _ _) s7579.lt) rfl s7579 fun v7585 w7586 s7587 m7588 k7589 r7590=>(?_)))
  obtain ⟨x7591,rfl,hl7592⟩:=r7590
  have:=hl7592.len_le
  have hl7116:=hl7116.mv m7588
  have hl7132:=hl7132.mv m7588
  have hl7273:=hl7273.mv m7588
  have hrdc146_20:=hrdc146_20.mv m7588
  have bx7145:=bx7145.keep k7589 (by simp)
  have hbn_bnc146_19:=hbn_bnc146_19.keep k7589 (by simp)
  refine AA (AG (vT #[x7591,vI ((BZ ([]) ([]) ([])).2)]) rfl (AA (AK (x7591) rfl rfl (AA (AK (vI ((BZ ([]) ([]) ([])).2)) rfl rfl (AA (AD (x7591) rfl (AA (AD (vI ((BZ ([]) ([]) ([])).2)) rfl (AF (AC (?_))))))))))))
  refine AE (?_)
  refine cw_draw' 10 _ _ [fun (vT:Value) (wT:World)=>BD Enc.share wT ((b7558 :: Blc146)++O) vT (kL),fun (vT:Value) (wT:World)=>BD Enc.share wT ((b7558 :: Blc146)++O) vT ((kL.take 1)),fun (vT:Value) (wT:World)=>BD Enc.share wT ((b7558 :: Blc146)++O) vT ((AR kC kL ([(4:UInt8)])).2.1),fun (vT:Value) (wT:World)=>BD Enc.share wT ((b7558 :: Blc146)++O) vT ((((AR kC kL ([(4:UInt8)])).2.1).drop 2)),fun (vT:Value) (wT:World)=>BD Enc.u8 wT ((b7558 :: Blc146)++O) vT ([(200:UInt8)]),fun (vT:Value) (wT:World)=>∃ (xT0:Value),vT = .tuple #[xT0,vI ((BZ (kL.take 1) (((AR kC kL ([(4:UInt8)])).2.1).drop 2) ([(200:UInt8)])).2)]∧BD Enc.u8 wT ((b7558 :: Blc146)++O) xT0 ((BZ (kL.take 1) (((AR kC kL ([(4:UInt8)])).2.1).drop 2) ([(200:UInt8)])).1),fun (vT:Value) (wT:World)=>∃ (xT0:Value),vT = .tuple #[xT0,vI ((BZ (kL.take 1) (((AR kC kL ([(4:UInt8)])).2.1).drop 2) ([(200:UInt8)])).2)]∧BD Enc.u8 wT ((b7558 :: Blc146)++O) xT0 ((BZ (kL.take 1) (((AR kC kL ([(4:UInt8)])).2.1).drop 2) ([(200:UInt8)])).1),fun (vT:Value) (wT:World)=>BD Enc.u8 wT ((b7558 :: Blc146)++O) vT ((BZ (kL.take 1) (((AR kC kL ([(4:UInt8)])).2.1).drop 2) ([(200:UInt8)])).1),DE (vI ((BZ (kL.take 1) (((AR kC kL ([(4:UInt8)])).2.1).drop 2) ([(200:UInt8)])).2)),fun (vT:Value) (wT:World)=>BD Enc.u8 wT ((b7558 :: Blc146)++O) vT ((BZ (kL.take 1) (((AR kC kL ([(4:UInt8)])).2.1).drop 2) ([(200:UInt8)])).1)] kR kR kR kR rfl rfl ⟨fun _ _ _ h k=>h.mv (Mv.of_keep k),fun _ _ _ h k=>h.mv (Mv.of_keep k),fun _ _ _ h k=>h.mv (Mv.of_keep k),fun _ _ _ h k=>h.mv (Mv.of_keep k),fun _ _ _ h k=>h.mv (Mv.of_keep k),fun _ _ _ ⟨y0,e,h0⟩ k=>⟨y0,e,h0.mv (Mv.of_keep k)⟩,fun _ _ _ ⟨y0,e,h0⟩ k=>⟨y0,e,h0.mv (Mv.of_keep k)⟩,fun _ _ _ h k=>h.mv (Mv.of_keep k),kI,fun _ _ _ h k=>h.mv (Mv.of_keep k),trivial⟩ ⟨?_,?_,?_,?_,?_,?_,?_,?_,?_,?_,trivial⟩ ?_
  ·intro F1 w1 k1 hf hd
   have k0:=(Keep.drew [] w7586).trans k1
   have m1:Mv (b7558 :: Blc146) w7586 (b7558 :: Blc146) w1:=Mv.of_keep k0
   have hl7116:=hl7116.mv m1
   obtain ⟨F2,rfl⟩:=AJ (F:=F1) [(3,x7115)] ⟨hf 3 kR,trivial⟩
   exact AH rfl ((AG (x7115) rfl (⟨(Keep.refl _ _),hl7116⟩)))
  ·intro F1 w1 k1 hf hd
   obtain ⟨v7593,e7595,hl7594⟩:∃ v,F1 167=v∧BD Enc.share w1 ((b7558 :: Blc146)++O) v (kL):=⟨_,rfl,hd 0 167 kR⟩
   have:=hl7594.len_le
   obtain ⟨F2,rfl⟩:=AJ (F:=F1) [(167,v7593)] ⟨e7595,trivial⟩
   refine AH rfl ((NG U32_ DP 0 1 rfl (.inl ⟨rfl,rfl⟩) (.inr ⟨.const (vI 1), .i64,(1:Int),rfl,rfl,rfl⟩) (by decide +kernel) (by decide +kernel) hl7594 fun v7596 hl7597=>(?_)))
   rw [List.drop_zero] at hl7597
   exact ⟨(Keep.refl _ _),hl7597⟩
  ·intro F1 w1 k1 hf hd
   have k0:=(Keep.drew [] w7586).trans k1
   have m1:Mv (b7558 :: Blc146) w7586 (b7558 :: Blc146) w1:=Mv.of_keep k0
   have hl7132:=hl7132.mv m1
   obtain ⟨F2,rfl⟩:=AJ (F:=F1) [(6,x7131)] ⟨hf 6 kR,trivial⟩
   exact AH rfl ((AG (x7131) rfl (⟨(Keep.refl _ _),hl7132⟩)))
  ·intro F1 w1 k1 hf hd
   obtain ⟨v7598,e7600,hl7599⟩:∃ v,F1 169=v∧BD Enc.share w1 ((b7558 :: Blc146)++O) v ((AR kC kL ([(4:UInt8)])).2.1):=⟨_,rfl,hd 2 169 kR⟩
   have:=hl7599.len_le
   obtain ⟨F2,rfl⟩:=AJ (F:=F1) [(169,v7598)] ⟨e7600,trivial⟩
   refine AH rfl ((NG U32_ DP 2 (((AR kC kL ([(4:UInt8)])).2.1).length) rfl (.inr ⟨.const (vI 2), .i64,(2:Int),rfl,rfl,rfl⟩) (.inl ⟨rfl,rfl⟩) (by decide +kernel) (by decide +kernel) hl7599 fun v7601 hl7602=>(?_)))
   rw [List.take_length] at hl7602
   exact ⟨(Keep.refl _ _),hl7602⟩
  ·intro F1 w1 k1 hf hd
   have k0:=(Keep.drew [] w7586).trans k1
   have s1:=s7587.call k0
   obtain ⟨F2,rfl⟩:=AJ (F:=F1) [] trivial
   refine AH rfl ((IY (E:=Enc.u8) (xs:=[.const (vB (200:UInt8))]) U23_ IH z_5 (by decide) [vB (200:UInt8)] [[vB (200:UInt8)]] [(200:UInt8)] rfl rfl rfl (Parts.cons rfl rfl (Parts.nil _ _ _)) oT s1 fun v7607 w7603 s7604 m7605 k7606 hl7608=>(?_)))
   have:=hl7608.len_le
   exact ⟨k7606,hl7608⟩
  ·intro F1 w1 k1 hf hd
   have k0:=(Keep.drew [] w7586).trans k1
   have s1:=s7587.call k0
   obtain ⟨v7609,e7611,hl7610⟩:∃ v,F1 168=v∧BD Enc.share w1 ((b7558 :: Blc146)++O) v ((kL.take 1)):=⟨_,rfl,hd 1 168 kR⟩
   have:=hl7610.len_le
   obtain ⟨v7612,e7614,hl7613⟩:∃ v,F1 170=v∧BD Enc.share w1 ((b7558 :: Blc146)++O) v ((((AR kC kL ([(4:UInt8)])).2.1).drop 2)):=⟨_,rfl,hd 3 170 kR⟩
   have:=hl7613.len_le
   obtain ⟨v7615,e7617,hl7616⟩:∃ v,F1 171=v∧BD Enc.u8 w1 ((b7558 :: Blc146)++O) v ([(200:UInt8)]):=⟨_,rfl,hd 4 171 kR⟩
   have:=hl7616.len_le
   obtain ⟨F2,rfl⟩:=AJ (F:=F1) [(168,v7609),(170,v7612),(171,v7615)] ⟨e7611,e7614,e7617,trivial⟩
   refine AH rfl ((BC (vs:=[v7609,v7612,v7615]) enter_18 (c_mixed (O:=(b7558 :: Blc146)++O) v7609 (kL.take 1) v7612 (((AR kC kL ([(4:UInt8)])).2.1).drop 2) v7615 ([(200:UInt8)]) w1 hl7610 hl7613 hl7616 s1.lt) rfl s1 fun v7618 w7619 s7620 m7621 k7622 r7623=>(?_)))
   obtain ⟨x7624,rfl,hl7625⟩:=r7623
   have:=hl7625.len_le
   exact ⟨k7622,⟨x7624,rfl,hl7625⟩⟩
  ·intro F1 w1 k1 hf hd
   obtain ⟨x7626,e7628,hl7627⟩:(fun (vT:Value) (wT:World)=>∃ (xT0:Value),vT = .tuple #[xT0,vI ((BZ (kL.take 1) (((AR kC kL ([(4:UInt8)])).2.1).drop 2) ([(200:UInt8)])).2)]∧BD Enc.u8 wT ((b7558 :: Blc146)++O) xT0 ((BZ (kL.take 1) (((AR kC kL ([(4:UInt8)])).2.1).drop 2) ([(200:UInt8)])).1)) (F1 172) w1:=hd 5 172 kR
   have:=hl7627.len_le
   obtain ⟨F2,rfl⟩:=AJ (F:=F1) [(172,vT #[x7626,vI ((BZ (kL.take 1) (((AR kC kL ([(4:UInt8)])).2.1).drop 2) ([(200:UInt8)])).2)])] ⟨e7628,trivial⟩
   exact AH rfl ((AG (vT #[x7626,vI ((BZ (kL.take 1) (((AR kC kL ([(4:UInt8)])).2.1).drop 2) ([(200:UInt8)])).2)]) rfl (⟨(Keep.refl _ _),⟨x7626,rfl,hl7627⟩⟩)))
  ·intro F1 w1 k1 hf hd
   obtain ⟨x7629,e7631,hl7630⟩:(fun (vT:Value) (wT:World)=>∃ (xT0:Value),vT = .tuple #[xT0,vI ((BZ (kL.take 1) (((AR kC kL ([(4:UInt8)])).2.1).drop 2) ([(200:UInt8)])).2)]∧BD Enc.u8 wT ((b7558 :: Blc146)++O) xT0 ((BZ (kL.take 1) (((AR kC kL ([(4:UInt8)])).2.1).drop 2) ([(200:UInt8)])).1)) (F1 166) w1:=hd 6 166 kR
   have:=hl7630.len_le
   obtain ⟨F2,rfl⟩:=AJ (F:=F1) [(166,vT #[x7629,vI ((BZ (kL.take 1) (((AR kC kL ([(4:UInt8)])).2.1).drop 2) ([(200:UInt8)])).2)])] ⟨e7631,trivial⟩
   exact AH rfl ((AK (x7629) rfl rfl (⟨(Keep.refl _ _),hl7630⟩)))
  ·intro F1 w1 k1 hf hd
   obtain ⟨x7632,e7634,hl7633⟩:(fun (vT:Value) (wT:World)=>∃ (xT0:Value),vT = .tuple #[xT0,vI ((BZ (kL.take 1) (((AR kC kL ([(4:UInt8)])).2.1).drop 2) ([(200:UInt8)])).2)]∧BD Enc.u8 wT ((b7558 :: Blc146)++O) xT0 ((BZ (kL.take 1) (((AR kC kL ([(4:UInt8)])).2.1).drop 2) ([(200:UInt8)])).1)) (F1 166) w1:=hd 6 166 kR
   have:=hl7633.len_le
   obtain ⟨F2,rfl⟩:=AJ (F:=F1) [(166,vT #[x7632,vI ((BZ (kL.take 1) (((AR kC kL ([(4:UInt8)])).2.1).drop 2) ([(200:UInt8)])).2)])] ⟨e7634,trivial⟩
   exact AH rfl ((AK (vI ((BZ (kL.take 1) (((AR kC kL ([(4:UInt8)])).2.1).drop 2) ([(200:UInt8)])).2)) rfl rfl (⟨(Keep.refl _ _),rfl⟩)))
  ·intro F1 w1 k1 hf hd
   obtain ⟨v7635,e7637,hl7636⟩:∃ v,F1 173=v∧BD Enc.u8 w1 ((b7558 :: Blc146)++O) v ((BZ (kL.take 1) (((AR kC kL ([(4:UInt8)])).2.1).drop 2) ([(200:UInt8)])).1):=⟨_,rfl,hd 7 173 kR⟩
   have:=hl7636.len_le
   obtain ⟨F2,rfl⟩:=AJ (F:=F1) [(173,v7635)] ⟨e7637,trivial⟩
   exact AH rfl ((AD (v7635) rfl (⟨(Keep.refl _ _),hl7636⟩)))
  intro F7639 w7640 k7638 hT7641 hF7642
  have s7643:=s7587.call k7638
  have m7644:Mv (b7558 :: Blc146) w7586 (b7558 :: Blc146) w7640:=Mv.of_keep k7638
  have hl7132:=hl7132.mv m7644
  have hl7273:=hl7273.mv m7644
  have hrdc146_20:=hrdc146_20.mv m7644
  have bx7145:=bx7145.keep k7638 (by simp)
  have hbn_bnc146_19:=hbn_bnc146_19.keep k7638 (by simp)
  obtain ⟨v7647,e7649,hl7648⟩:∃ v,F7639 31=v∧BD Enc.u8 w7640 ((b7558 :: Blc146)++O) v ((BZ (kL.take 1) (((AR kC kL ([(4:UInt8)])).2.1).drop 2) ([(200:UInt8)])).1):=⟨_,rfl,hT7641 9 31 kR (by decide)⟩
  have:=hl7648.len_le
  obtain ⟨F2,rfl⟩:=AJ (F:=F7639) [(5,vP (some ⟨b7133,0,none⟩)),(6,x7131),(11,vI ((BO kA ((AU kC (1:Int)).2.1) kL).2)),(15,v7272),(16,vI ((BO CU ((AU kC (1:Int)).2.1) (kL.drop 1)).2)),(18,vI ((BO CU ((AU kC (1:Int)).2.1) (((AR kC kL ([(4:UInt8)])).2.1).drop 1)).2)),(19,vP (some ⟨bnc146_19,0,none⟩)),(20,vrc146_20),(21,vI kE),(23,vI ((CM (⟨(0:Int),(0:Int),(0:Int),[],[]⟩:Circle) ([]) ([])).2)),(26,vI ((AR CU ([]) ([])).2.2)),(28,vI ((BO kX (0:Int) ((AR kC kL ([(4:UInt8)])).2.1)).2)),(30,vI ((BZ ([]) ([]) ([])).2)),(252,undef),(31,v7647),(174,vI ((BZ (kL.take 1) (((AR kC kL ([(4:UInt8)])).2.1).drop 2) ([(200:UInt8)])).2))] ⟨hF7642 5 kR,hF7642 6 kR,hF7642 11 kR,hF7642 15 kR,hF7642 16 kR,hF7642 18 kR,hF7642 19 kR,hF7642 20 kR,hF7642 21 kR,hF7642 23 kR,hF7642 26 kR,hF7642 28 kR,hF7642 30 kR,hF7642 252 kR,e7649,hT7641 8 174 kR (by decide),trivial⟩
  clear hT7641 hF7642
  refine AA (AD (vI ((BZ (kL.take 1) (((AR kC kL ([(4:UInt8)])).2.1).drop 2) ([(200:UInt8)])).2)) rfl (AF (AC (?_))))
  refine AE (?_)
  refine AE (?_)
  refine AB kR (AA (AG (vI ((BO CU ((AU kC (1:Int)).2.1) (kL.drop 1)).2)) rfl (AA (CV .i64 ((BO CU ((AU kC (1:Int)).2.1) (kL.drop 1)).2) (0:Int) rfl rfl (AA (AG (vO (((BO CU ((AU kC (1:Int)).2.1) (kL.drop 1)).2) != (0:Int))) rfl (?_)))))))
  have hb7650:(((BO CU ((AU kC (1:Int)).2.1) (kL.drop 1)).2) != (0:Int))=false:=(by decide +kernel)
  rw [hb7650]
  refine BI rfl (AG (vI ((BO CU ((AU kC (1:Int)).2.1) (((AR kC kL ([(4:UInt8)])).2.1).drop 1)).2)) rfl (BI rfl (CV .i64 ((BO CU ((AU kC (1:Int)).2.1) (((AR kC kL ([(4:UInt8)])).2.1).drop 1)).2) (460:Int) rfl rfl (AA (CA (vO (((BO CU ((AU kC (1:Int)).2.1) (((AR kC kL ([(4:UInt8)])).2.1).drop 1)).2) != (460:Int))) rfl rfl (AA (AG (vO (((BO CU ((AU kC (1:Int)).2.1) (((AR kC kL ([(4:UInt8)])).2.1).drop 1)).2) != (460:Int))) rfl (?_))))))))
  have hb7651:(((BO CU ((AU kC (1:Int)).2.1) (((AR kC kL ([(4:UInt8)])).2.1).drop 1)).2) != (460:Int))=false:=(by decide +kernel)
  rw [hb7651]
  refine BI rfl (AG (vI kE) rfl (BI rfl (CV .i64 kE (0:Int) rfl rfl (AA (CA (vO (kE != (0:Int))) rfl rfl (AA (AG (vO (kE != (0:Int))) rfl (?_))))))))
  have hb7652:(kE != (0:Int))=false:=(by decide +kernel)
  rw [hb7652]
  refine BI rfl (AG (vI ((CM (⟨(0:Int),(0:Int),(0:Int),[],[]⟩:Circle) ([]) ([])).2)) rfl (BI rfl (CV .i64 ((CM (⟨(0:Int),(0:Int),(0:Int),[],[]⟩:Circle) ([]) ([])).2) (450:Int) rfl rfl (AA (CA (vO (((CM (⟨(0:Int),(0:Int),(0:Int),[],[]⟩:Circle) ([]) ([])).2) != (450:Int))) rfl rfl (AA (AG (vO (((CM (⟨(0:Int),(0:Int),(0:Int),[],[]⟩:Circle) ([]) ([])).2) != (450:Int))) rfl (?_))))))))
  have hb7653:(((CM (⟨(0:Int),(0:Int),(0:Int),[],[]⟩:Circle) ([]) ([])).2) != (450:Int))=false:=(by decide +kernel)
  rw [hb7653]
  refine BI rfl (AG (vI ((AR CU ([]) ([])).2.2)) rfl (BI rfl (CV .i64 ((AR CU ([]) ([])).2.2) (80:Int) rfl rfl (AA (CA (vO (((AR CU ([]) ([])).2.2) != (80:Int))) rfl rfl (AA (AG (vO (((AR CU ([]) ([])).2.2) != (80:Int))) rfl (?_))))))))
  have hb7654:(((AR CU ([]) ([])).2.2) != (80:Int))=false:=(by decide +kernel)
  rw [hb7654]
  refine BI rfl (AG (vI ((BO kX (0:Int) ((AR kC kL ([(4:UInt8)])).2.1)).2)) rfl (BI rfl (CV .i64 ((BO kX (0:Int) ((AR kC kL ([(4:UInt8)])).2.1)).2) (1:Int) rfl rfl (AA (CA (vO (((BO kX (0:Int) ((AR kC kL ([(4:UInt8)])).2.1)).2) != (1:Int))) rfl rfl (AA (AG (vO (((BO kX (0:Int) ((AR kC kL ([(4:UInt8)])).2.1)).2) != (1:Int))) rfl (?_))))))))
  have hb7655:(((BO kX (0:Int) ((AR kC kL ([(4:UInt8)])).2.1)).2) != (1:Int))=false:=(by decide +kernel)
  rw [hb7655]
  refine BI rfl (AG (vI ((BZ ([]) ([]) ([])).2)) rfl (BI rfl (CV .i64 ((BZ ([]) ([]) ([])).2) (80:Int) rfl rfl (AA (CA (vO (((BZ ([]) ([]) ([])).2) != (80:Int))) rfl rfl (AA (AG (vO (((BZ ([]) ([]) ([])).2) != (80:Int))) rfl (?_))))))))
  have hb7656:(((BZ ([]) ([]) ([])).2) != (80:Int))=false:=(by decide +kernel)
  rw [hb7656]
  refine BI rfl (AG (vI ((BZ (kL.take 1) (((AR kC kL ([(4:UInt8)])).2.1).drop 2) ([(200:UInt8)])).2)) rfl (BI rfl (CV .i64 ((BZ (kL.take 1) (((AR kC kL ([(4:UInt8)])).2.1).drop 2) ([(200:UInt8)])).2) (0:Int) rfl rfl (AA (CA (vO (((BZ (kL.take 1) (((AR kC kL ([(4:UInt8)])).2.1).drop 2) ([(200:UInt8)])).2) != (0:Int))) rfl rfl (AA (AG (vO (((BZ (kL.take 1) (((AR kC kL ([(4:UInt8)])).2.1).drop 2) ([(200:UInt8)])).2) != (0:Int))) rfl (?_))))))))
  have hb7657:(((BZ (kL.take 1) (((AR kC kL ([(4:UInt8)])).2.1).drop 2) ([(200:UInt8)])).2) != (0:Int))=false:=(by decide +kernel)
  rw [hb7657]
  refine BI rfl (AG (vI ((BO kA ((AU kC (1:Int)).2.1) kL).2)) rfl (BI rfl (CV .i64 ((BO kA ((AU kC (1:Int)).2.1) kL).2) (460:Int) rfl rfl (AA (CA (vO (((BO kA ((AU kC (1:Int)).2.1) kL).2) != (460:Int))) rfl rfl (AA (AG (vO (((BO kA ((AU kC (1:Int)).2.1) kL).2) != (460:Int))) rfl (?_))))))))
  have hb7658:(((BO kA ((AU kC (1:Int)).2.1) kL).2) != (460:Int))=false:=(by decide +kernel)
  rw [hb7658]
  refine BI rfl (AG (vrc146_20) rfl (BI rfl (CG U32_ rfl hrdc146_20 (BI rfl (CV .i64 (kW.length:Int) (1:Int) rfl rfl (AA (CA (vO ((kW.length:Int) != (1:Int))) rfl rfl (AF (AC (?_))))))))))
  have hb7659:((kW.length:Int) != (1:Int))=false:=(by decide +kernel)
  rw [hb7659]
  refine AL false rfl rfl (fun h=>by cases h) (fun _=>?_)
  refine AT (AC (?_))
  refine AE (?_)
  refine AB kR (AA (AG (v7272) rfl (AA (SG U23_ U5_ U9_ rfl hl7273 (AA (o_eqlS ((BO CU ((AU kC (1:Int)).2.1) (kL.drop 1)).1) ([7]:List UInt8) rfl rfl (AA (AG (vO (((BO CU ((AU kC (1:Int)).2.1) (kL.drop 1)).1) == ([7]:List UInt8))) rfl (?_)))))))))
  have hb7660:(((BO CU ((AU kC (1:Int)).2.1) (kL.drop 1)).1) == ([7]:List UInt8))=true:=(by decide +kernel)
  rw [hb7660]
  refine BI rfl (BB 0 IA rfl (BI rfl (BF U3_ rfl (vI kX.epoch) rfl bx7145 rfl (BI rfl (EN .i64 kX.epoch (1:Int) rfl rfl (AA (BL (vO (kX.epoch == (1:Int))) rfl rfl (AA (AG (vO (kX.epoch == (1:Int))) rfl (?_))))))))))
  have hb7661:(kX.epoch == (1:Int))=true:=(by decide +kernel)
  rw [hb7661]
  refine BI rfl (AG (x7131) rfl (BI rfl (DG U32_ DP .i64 (0:Int) 0 rfl rfl rfl hl7132 (by decide +kernel) fun a7662 hp7663=>(BI rfl (BJ 0 IJ ((((AR kC kL ([(4:UInt8)])).2.1)[0]!).epoch) rfl hp7663 (fun _ _ _ h=>LX h) fun a7664 hp7665=>(BI rfl (CC U3_ rfl rfl hp7665 (BI rfl (EN .i64 ((((AR kC kL ([(4:UInt8)])).2.1)[0]!).epoch) (1:Int) rfl rfl (AA (BL (vO (((((AR kC kL ([(4:UInt8)])).2.1)[0]!).epoch) == (1:Int))) rfl rfl (AA (AG (vO (((((AR kC kL ([(4:UInt8)])).2.1)[0]!).epoch) == (1:Int))) rfl (?_))))))))))))))
  have hb7666:(((((AR kC kL ([(4:UInt8)])).2.1)[0]!).epoch) == (1:Int))=true:=(by decide +kernel)
  rw [hb7666]
  refine BI rfl (BB 0 IA rfl (BI rfl (BF U3_ rfl (vI kZ.epoch) rfl hbn_bnc146_19 rfl (BI rfl (EN .i64 kZ.epoch (1:Int) rfl rfl (AA (BL (vO (kZ.epoch == (1:Int))) rfl rfl (AA (AG (vO (kZ.epoch == (1:Int))) rfl (?_))))))))))
  have hb7667:(kZ.epoch == (1:Int))=true:=(by decide +kernel)
  rw [hb7667]
  refine BI rfl (BB 1 MC rfl (BI rfl (BF U3_ rfl (vI kZ.threshold) rfl hbn_bnc146_19 rfl (BI rfl (EN .i64 kZ.threshold (1:Int) rfl rfl (AA (BL (vO (kZ.threshold == (1:Int))) rfl rfl (AA (AG (vO (kZ.threshold == (1:Int))) rfl (?_))))))))))
  have hb7668:(kZ.threshold == (1:Int))=true:=(by decide +kernel)
  rw [hb7668]
  refine BI rfl (AG (vrc146_20) rfl (BI rfl (DG U32_ DP .i64 (0:Int) 0 rfl rfl rfl hrdc146_20 (by decide +kernel) fun a7669 hp7670=>(BI rfl (BJ 4 GM ((kW[0]!).data) rfl hp7670 (fun _ _ _ h=>FJ h) fun a7671 hp7672=>(BI rfl (BV U23_ rfl rfl hp7672 fun v7673 hl7674=>(?_))))))))
  have:=hl7674.len_le
  refine BI rfl (SG U23_ U5_ U9_ rfl hl7674 (BI rfl (o_eqlS ((kW[0]!).data) ([7]:List UInt8) rfl rfl (AA (BL (vO (((kW[0]!).data) == ([7]:List UInt8))) rfl rfl (AA (AG (vO (((kW[0]!).data) == ([7]:List UInt8))) rfl (?_))))))))
  have hb7675:(((kW[0]!).data) == ([7]:List UInt8))=true:=(by decide +kernel)
  rw [hb7675]
  refine BI rfl (AG (v7647) rfl (BI rfl (CG U23_ rfl hl7648 (BI rfl (EN .i64 (((BZ (kL.take 1) (((AR kC kL ([(4:UInt8)])).2.1).drop 2) ([(200:UInt8)])).1).length:Int) (2:Int) rfl rfl (AA (BL (vO ((((BZ (kL.take 1) (((AR kC kL ([(4:UInt8)])).2.1).drop 2) ([(200:UInt8)])).1).length:Int) == (2:Int))) rfl rfl (AA (AD (vO ((((BZ (kL.take 1) (((AR kC kL ([(4:UInt8)])).2.1).drop 2) ([(200:UInt8)])).1).length:Int) == (2:Int))) rfl (AF (AC (?_))))))))))))
  refine AM (AX rfl (CP rfl rfl rfl) (?_))
  have e:true=((((BZ (kL.take 1) (((AR kC kL ([(4:UInt8)])).2.1).drop 2) ([(200:UInt8)])).1).length:Int) == (2:Int)):=by rfl
  exact ⟨_,rfl,s7643.keep,(by exact congrArg vO e.symm)⟩
open Go.Fw Go.RowKit
set_option maxHeartbeats 4000000 in
set_option maxRecDepth 100000 in
theorem c_few {O:List Nat} (c_cs:List Value) (c:Circle) (w:World) (h_c:Enc.circle.rd w O c_cs c) (hO:∀ b∈O,b<w.heap.size):CE Try.prog 61 [.agg c_cs.toArray] w (fun v _=>v = .bool (MQ c)):= by
 have h_c:Enc.circle.rd w ([]++O) c_cs c:=h_c
 have s0:St w O w []:=St.start hO
 refine BP 39 Try.func61 rfl rfl oT (fun F0=>?_)
 refine AE (?_)
 refine AB kR (AA (DO (E:=Enc.circle) (vA c_cs.toArray) (c_cs) c rfl rfl h_c s0 fun a5016 w5017 s5018 m5019 k5020 hp5021=>(?_)))
 refine AA (AD (vO false) rfl (AF (AC (?_))))
 refine AE (?_)
 refine AE (?_)
 refine AB kR (AA (AD (vI 0) rfl (AF (AC (?_)))))
 refine BQ (?_)
 refine DI (fun mI FI wI=>∃ (k:Nat),k≤c.recs.length∧MQ c=FF (fun k=>if TS c k then some false else none) (decide ((c.guardians.length:Int)≤12) && decide ((c.recs.length:Int)≤20)) k (c.recs.length - k)∧mI=c.recs.length - k∧(∃ F1,FI=FR F1 [(1,vP (some a5016)),(3,vI ((k:Nat):Int)),(39,undef)])∧w5017=wI) (c.recs.length - (0)) ?_ ?_
 ·exact ⟨(0),oM,rfl,rfl,⟨_,AY _ ⟨rfl,(by rfl),rfl,trivial⟩⟩,rfl⟩
 ·rintro ml0 F wl0 ⟨k,hr0_0,hr0_1,hm0,⟨Fl0,rfl⟩,rfl⟩
  refine AE (?_)
  refine AE (?_)
  refine AB kR (AA (AG (vI ((k:Nat):Int)) rfl (AA (BJ 4 DK (c.recs) rfl hp5021 (fun _ _ _ h=>CH h) fun a5022 hp5023=>(AA (BV U26_ rfl rfl hp5023 fun v5024 hl5025=>(?_)))))))
  have:=hl5025.len_le
  refine AA (CG U26_ rfl hl5025 (AA (DZ .i64 ((k:Nat):Int) (c.recs.length:Int) rfl rfl (AF (AC (?_))))))
  refine AL (decide (((k:Nat):Int)<(c.recs.length:Int))) rfl rfl (fun hc5026=>?_) (fun hc5026=>?_)
  ·have hp5027:((k:Nat):Int)<(c.recs.length:Int):=by simpa using hc5026
   refine AT (AC (?_))
   refine AE (?_)
   refine BQ (?_)
   refine AE (?_)
   refine AB kR (AA (BJ 4 DK (c.recs) rfl hp5021 (fun _ _ _ h=>CH h) fun a5028 hp5029=>(AA (BV U26_ rfl rfl hp5029 fun v5030 hl5031=>(?_)))))
   have:=hl5031.len_le
   refine AA (AG (vI ((k:Nat):Int)) rfl (AA (DG U26_ FX .i64 ((k:Nat):Int) k rfl rfl rfl hl5031 oM fun a5032 hp5033=>(AA (BJ 3 OS ((c.recs[k]!).approved) rfl hp5033 (fun _ _ _ h=>JG h) fun a5034 hp5035=>(AA (BV U22_ rfl rfl hp5035 fun v5036 hl5037=>(?_))))))))
   have:=hl5037.len_le
   refine AA (CG U22_ rfl hl5037 (AA (FU .i64 (((c.recs[k]!).approved).length:Int) (20:Int) rfl rfl (AA (AG (vO (decide ((20:Int)<(((c.recs[k]!).approved).length:Int)))) rfl (?_))))))
   cases hb5038:(decide ((20:Int)<(((c.recs[k]!).approved).length:Int)))
   ·have hp5039:(((c.recs[k]!).approved).length:Int)≤(20:Int):=by simpa using hb5038
    refine BI rfl (BJ 4 DK (c.recs) rfl hp5021 (fun _ _ _ h=>CH h) fun a5040 hp5041=>(BI rfl (BV U26_ rfl rfl hp5041 fun v5042 hl5043=>(?_))))
    have:=hl5043.len_le
    refine BI rfl (AG (vI ((k:Nat):Int)) rfl (BI rfl (DG U26_ FX .i64 ((k:Nat):Int) k rfl rfl rfl hl5043 oM fun a5044 hp5045=>(BI rfl (BJ 4 SJ ((c.recs[k]!).vetoed) rfl hp5045 (fun _ _ _ h=>GE h) fun a5046 hp5047=>(BI rfl (BV U22_ rfl rfl hp5047 fun v5048 hl5049=>(?_))))))))
    have:=hl5049.len_le
    refine BI rfl (CG U22_ rfl hl5049 (BI rfl (FU .i64 (((c.recs[k]!).vetoed).length:Int) (20:Int) rfl rfl (AA (CA (vO (decide ((20:Int)<(((c.recs[k]!).vetoed).length:Int)))) rfl rfl (AF (AC (?_))))))))
    refine AL (decide ((20:Int)<(((c.recs[k]!).vetoed).length:Int))) rfl rfl (fun hc5050=>?_) (fun hc5050=>?_)
    ·have hp5051:(20:Int)<(((c.recs[k]!).vetoed).length:Int):=by simpa using hc5050
     refine AE (?_)
     refine AB kR (AA (AD (vO false) rfl (AF (AC (?_)))))
     refine AM (BY (AP (AP (BY (AP (AX rfl (CP rfl rfl rfl) (?_)))))))
     have e:(MQ c)=false:=by (rw [hr0_1];exact DQ oM (by ((repeat ((refine (if_pos ?_).trans ?_;solve|(simp only [TS,dbs];(repeat (omega))))));rfl)))
     exact ⟨_,rfl,s5018.keep,(by exact congrArg vO e.symm)⟩
    ·have hp5052:(((c.recs[k]!).vetoed).length:Int)≤(20:Int):=by simpa using hc5050
     refine AT (CI (AC (?_)))
     refine AB kR (AA (AG (vI ((k:Nat):Int)) rfl (AA (DD .i64 ((k:Nat):Int) (1:Int) (((k+1:Nat):Int)) rfl rfl (FT oM oM) (AA (AD (vI ((k+1:Nat):Int)) rfl (AF (AC (?_)))))))))
     exact ⟨_,oM,(k+1),oM,(hr0_1.trans (GJ oM (by ((repeat ((refine (if_neg ?_).trans ?_;solve|(simp only [TS,dbs];(repeat (omega))))));rfl)))),rfl,⟨_,AY _ ⟨rfl,(by rfl),rfl,trivial⟩⟩,rfl⟩
   ·have hp5053:(20:Int)<(((c.recs[k]!).approved).length:Int):=by simpa using hb5038
    refine AS rfl (AS rfl (AS rfl (AS rfl (AS rfl (AS rfl (AS rfl (AS rfl (AA (BL (vO true) rfl rfl (AF (AC (?_))))))))))))
    refine AL true rfl rfl (fun _=>?_) (fun h=>by cases h)
    refine AE (?_)
    refine AB kR (AA (AD (vO false) rfl (AF (AC (?_)))))
    refine AM (BY (AP (AP (BY (AP (AX rfl (CP rfl rfl rfl) (?_)))))))
    have e:(MQ c)=false:=by (rw [hr0_1];exact DQ oM (by ((repeat ((refine (if_pos ?_).trans ?_;solve|(simp only [TS,dbs];(repeat (omega))))));rfl)))
    exact ⟨_,rfl,s5018.keep,(by exact congrArg vO e.symm)⟩
  ·have hp5054:(c.recs.length:Int)≤((k:Nat):Int):=by simpa using hc5026
   refine DH (CD (CD (DB (AC (?_)))))
   refine AE (?_)
   refine AB kR (AA (BJ 3 JY (c.guardians) rfl hp5021 (fun _ _ _ h=>EO h) fun a5055 hp5056=>(AA (BV U22_ rfl rfl hp5056 fun v5057 hl5058=>(?_)))))
   have:=hl5058.len_le
   refine AA (CG U22_ rfl hl5058 (AA (o_leq .i64 (c.guardians.length:Int) (12:Int) rfl rfl (AA (AG (vO (decide ((c.guardians.length:Int)≤(12:Int)))) rfl (?_))))))
   cases hb5059:(decide ((c.guardians.length:Int)≤(12:Int)))
   ·have hp5060:(12:Int)<(c.guardians.length:Int):=by simpa using hb5059
    refine AS rfl (AS rfl (AS rfl (AS rfl (AA (CA (vO false) rfl rfl (AA (AD (vO false) rfl (AF (AC (?_))))))))))
    refine AM (AX rfl (CP rfl rfl rfl) (?_))
    have e:(MQ c)=false:=by (rw [hr0_1,HC oM];simp [*])
    exact ⟨_,rfl,s5018.keep,(by exact congrArg vO e.symm)⟩
   ·have hp5061:(c.guardians.length:Int)≤(12:Int):=by simpa using hb5059
    refine BI rfl (BJ 4 DK (c.recs) rfl hp5021 (fun _ _ _ h=>CH h) fun a5062 hp5063=>(BI rfl (BV U26_ rfl rfl hp5063 fun v5064 hl5065=>(?_))))
    have:=hl5065.len_le
    refine BI rfl (CG U26_ rfl hl5065 (BI rfl (o_leq .i64 (c.recs.length:Int) (20:Int) rfl rfl (AA (BL (vO (decide ((c.recs.length:Int)≤(20:Int)))) rfl rfl (AA (AD (vO (decide ((c.recs.length:Int)≤(20:Int)))) rfl (AF (AC (?_))))))))))
    refine AM (AX rfl (CP rfl rfl rfl) (?_))
    have e:(MQ c)=(decide ((c.recs.length:Int)≤(20:Int))):=by (rw [hr0_1,HC oM];simp [*])
    exact ⟨_,rfl,s5018.keep,(by exact congrArg vO e.symm)⟩
open Go.Fw Go.RowKit
set_option maxHeartbeats 4000000 in
set_option maxRecDepth 100000 in
theorem c_few8 {O:List Nat} (l_v:Value) (l:List Share) (w:World) (h_l:BD Enc.share w O l_v l) (hO:∀ b∈O,b<w.heap.size):CE Try.prog 21 [l_v] w (fun v _=>v = .bool (OW l)):= by
 have lim_l:=h_l.len_le
 have h_l:BD Enc.share w ([]++O) l_v l:=h_l
 have s0:St w O w []:=St.start hO
 refine BP 20 Try.func21 rfl rfl oT (fun F0=>?_)
 refine AE (?_)
 refine AB kR (AA (AD (vO false) rfl (AF (AC (?_)))))
 refine AE (?_)
 refine AE (?_)
 refine AB kR (AA (AD (vI 0) rfl (AF (AC (?_)))))
 refine BQ (?_)
 refine DI (fun mI FI wI=>∃ (k:Nat),k≤l.length∧OW l=FF (fun k=>if 70<(l[k]!.data.length:Int) then some false else none) (decide ((l.length:Int)≤10)) k (l.length - k)∧mI=l.length - k∧(∃ F1,FI=FR F1 [(0,l_v),(3,vI ((k:Nat):Int)),(20,undef)])∧w=wI) (l.length - (0)) ?_ ?_
 ·exact ⟨(0),oM,rfl,rfl,⟨_,AY _ ⟨rfl,(by rfl),rfl,trivial⟩⟩,rfl⟩
 ·rintro ml0 F wl0 ⟨k,hr0_0,hr0_1,hm0,⟨Fl0,rfl⟩,rfl⟩
  refine AE (?_)
  refine AE (?_)
  refine AB kR (AA (AG (vI ((k:Nat):Int)) rfl (AA (AG (l_v) rfl (AA (CG U32_ rfl h_l (AA (DZ .i64 ((k:Nat):Int) (l.length:Int) rfl rfl (AF (AC (?_)))))))))))
  refine AL (decide (((k:Nat):Int)<(l.length:Int))) rfl rfl (fun hc1271=>?_) (fun hc1271=>?_)
  ·have hp1272:((k:Nat):Int)<(l.length:Int):=by simpa using hc1271
   refine AT (AC (?_))
   refine AE (?_)
   refine BQ (?_)
   refine AE (?_)
   refine AB kR (AA (AG (l_v) rfl (AA (AG (vI ((k:Nat):Int)) rfl (AA (DG U32_ DP .i64 ((k:Nat):Int) k rfl rfl rfl h_l oM fun a1273 hp1274=>(AA (BJ 4 GM ((l[k]!).data) rfl hp1274 (fun _ _ _ h=>FJ h) fun a1275 hp1276=>(AA (BV U23_ rfl rfl hp1276 fun v1277 hl1278=>(?_)))))))))))
   have:=hl1278.len_le
   refine AA (CG U23_ rfl hl1278 (AA (FU .i64 (((l[k]!).data).length:Int) (70:Int) rfl rfl (AF (AC (?_))))))
   refine AL (decide ((70:Int)<(((l[k]!).data).length:Int))) rfl rfl (fun hc1279=>?_) (fun hc1279=>?_)
   ·have hp1280:(70:Int)<(((l[k]!).data).length:Int):=by simpa using hc1279
    refine AE (?_)
    refine AB kR (AA (AD (vO false) rfl (AF (AC (?_)))))
    refine AM (BY (AP (AP (BY (AP (AX rfl (CP rfl rfl rfl) (?_)))))))
    have e:(OW l)=false:=by (rw [hr0_1];exact DQ oM (by ((repeat ((refine (if_pos ?_).trans ?_;omega)));rfl)))
    exact ⟨_,rfl,s0.keep,(by exact congrArg vO e.symm)⟩
   ·have hp1281:(((l[k]!).data).length:Int)≤(70:Int):=by simpa using hc1279
    refine AT (CI (AC (?_)))
    refine AB kR (AA (AG (vI ((k:Nat):Int)) rfl (AA (DD .i64 ((k:Nat):Int) (1:Int) (((k+1:Nat):Int)) rfl rfl (FT oM oM) (AA (AD (vI ((k+1:Nat):Int)) rfl (AF (AC (?_)))))))))
    exact ⟨_,oM,(k+1),oM,(hr0_1.trans (GJ oM (by ((repeat ((refine (if_neg ?_).trans ?_;omega)));rfl)))),rfl,⟨_,AY _ ⟨rfl,(by rfl),rfl,trivial⟩⟩,rfl⟩
  ·have hp1282:(l.length:Int)≤((k:Nat):Int):=by simpa using hc1271
   refine DH (CD (CD (DB (AC (?_)))))
   refine AE (?_)
   refine AB kR (AA (AG (l_v) rfl (AA (CG U32_ rfl h_l (AA (o_leq .i64 (l.length:Int) (10:Int) rfl rfl (AA (AD (vO (decide ((l.length:Int)≤(10:Int)))) rfl (AF (AC (?_)))))))))))
   refine AM (AX rfl (CP rfl rfl rfl) (?_))
   have e:(OW l)=(decide ((l.length:Int)≤(10:Int))):=by (rw [hr0_1];exact HC oM)
   exact ⟨_,rfl,s0.keep,(by exact congrArg vO e.symm)⟩
open Go.Fw Go.RowKit
set_option maxHeartbeats 4000000 in
set_option maxRecDepth 100000 in
theorem c_done {O:List Nat} (c_cs:List Value) (c:Circle) (w:World) (h_c:Enc.circle.rd w O c_cs c) (hO:∀ b∈O,b<w.heap.size):CE Try.prog 27 [.agg c_cs.toArray] w (fun v w'=>∃ (x0:List Value),v = .tuple #[.agg x0.toArray,vI ((CJ c).2.1), .bool ((CJ c).2.2)]∧Enc.circle.rd w' (O) x0 ((CJ c).1)):= by
 have h_c:Enc.circle.rd w ([]++O) c_cs c:=h_c
 have s0:St w O w []:=St.start hO
 refine BP 80 Try.func27 rfl rfl oT (fun F0=>?_)
 refine AE (?_)
 refine AB kR (AA (DO (E:=Enc.circle) (vA c_cs.toArray) (c_cs) c rfl rfl h_c s0 fun a7676 w7677 s7678 m7679 k7680 hp7681=>(?_)))
 refine AA (CY [vI 0,vI 0,vI 0,nS,nS] KM rfl s7678 fun b7682 w7683 e7688 s7684 m7685 k7686 bx7687=>(?_))
 clear e7688
 have hp7681:=hp7681.mv m7685
 refine AA (AD (vI 0) rfl (AA (AD (vO false) rfl (AF (AC (?_))))))
 refine AE (?_)
 refine AE (?_)
 refine AB kR (AA (BJ 4 DK (c.recs) rfl hp7681 (fun _ _ _ h=>CH h) fun a7689 hp7690=>(AA (BV U26_ rfl rfl hp7690 fun v7691 hl7692=>(?_)))))
 have:=hl7692.len_le
 refine AA (CG U26_ rfl hl7692 (AA (AD (vI (c.recs.length:Int)) rfl (AF (AC (?_))))))
 refine AE (?_)
 refine AB kR (AA (AG (vI (c.recs.length:Int)) rfl (AA (FU .i64 (c.recs.length:Int) (0:Int) rfl rfl (AA (AG (vO (decide ((0:Int)<(c.recs.length:Int)))) rfl (?_)))))))
 cases hb7693:(decide ((0:Int)<(c.recs.length:Int)))
 ·have hp7694:(c.recs.length:Int)≤(0:Int):=by simpa using hb7693
  refine AS rfl (AS rfl (AS rfl (AS rfl (AS rfl (AS rfl (AS rfl (AS rfl (AA (CA (vO false) rfl rfl (AF (AC (?_))))))))))))
  refine AL false rfl rfl (fun h=>by cases h) (fun _=>?_)
  refine AT (AC (?_))
  refine AE (?_)
  refine AB kR (AA (AD (vI 0) rfl (AF (AC (?_)))))
  refine QJ (fun FI wI=>GH c=false∧True∧(∃ F1,FI=FR F1 [(1,vP (some a7676)),(2,vP (some ⟨b7682,0,none⟩)),(6,vI (AN c)),(80,undef)])∧w7683=wI) ?_ ?_
  ·refine AE (?_)
   refine AB kR (AA (BJ 4 DK (c.recs) rfl hp7681 (fun _ _ _ h=>CH h) fun a7695 hp7696=>(AA (BV U26_ rfl rfl hp7696 fun v7697 hl7698=>(?_)))))
   have:=hl7698.len_le
   refine AA (CG U26_ rfl hl7698 (AA (AD (vI (c.recs.length:Int)) rfl (AF (AC (?_))))))
   refine AE (?_)
   refine AB kR (AA (AG (vI (c.recs.length:Int)) rfl (AA (FU .i64 (c.recs.length:Int) (0:Int) rfl rfl (AF (AC (?_)))))))
   have hb7699:(decide ((0:Int)<(c.recs.length:Int)))=false:=hb7693
   rw [hb7699]
   refine AL false rfl rfl (fun h=>by cases h) (fun _=>?_)
   refine AT (AC (?_))
   exact ⟨(last_n (by exact .inl oM)),trivial,⟨_,AY _ ⟨rfl,rfl,(by exact congrArg (Value.int _) (by (exact (if_neg oM).symm))),rfl,trivial⟩⟩,rfl⟩
  ·rintro F wlc40 ⟨hrc40_0,hmc40,⟨Flc40,rfl⟩,rfl⟩
   refine AE (?_)
   refine AB kR (AA (CR U28_ rfl BK rfl hp7681 fun cs7700 hs7701=>(AA (AG (vI (AN c)) rfl (AA (BC (vs:=[vA cs7700.toArray,vI (AN c)]) SV (c_ask (O:=(b7682 :: [])++O) cs7700 c (AN c) w7683 hs7701 s7684.lt) rfl s7684 fun v7702 w7703 s7704 m7705 k7706 r7707=>(?_)))))))
   obtain ⟨cs7708,rfl,hs7709⟩:=r7707
   have hp7681:=hp7681.mv m7705
   have bx7687:=bx7687.keep k7706 (by simp)
   refine AA (AG (vT #[vA cs7708.toArray,vI ((AU c (AN c)).2.1),vI ((AU c (AN c)).2.2)]) rfl (AA (AK (vA cs7708.toArray) rfl rfl (AA (AK (vI ((AU c (AN c)).2.1)) rfl rfl (AA (AK (vI ((AU c (AN c)).2.2)) rfl rfl (?_))))))))
   obtain ⟨d7715,d7717,rfl,hd7716,hd7718⟩:=hs7709
   have:=hd7716.len_le
   have:=hd7718.len_le
   refine BW (BA (vs:=[vI (((AU c (AN c)).1).epoch),vI (((AU c (AN c)).1).threshold),vI (((AU c (AN c)).1).wait),d7715,d7717]) (.agg #[vI (((AU c (AN c)).1).epoch),vI (((AU c (AN c)).1).threshold),vI (((AU c (AN c)).1).wait),d7715,d7717]) rfl rfl rfl BK (fun u hu=>by simp only [List.mem_cons,List.not_mem_nil,or_false] at hu;rcases hu with rfl|rfl|rfl|rfl|rfl <;> first|rfl|exact hd7716.oneCell|exact hd7718.oneCell) (by repeat (constructor)) bx7687 oT s7704 fun w7710 s7711 m7712 k7713 bx7714=>(?_))
   have hp7681:=hp7681.mv m7712
   have hd7716:=hd7716.mv m7712
   have hd7718:=hd7718.mv m7712
   refine AA (AD (vI ((AU c (AN c)).2.1)) rfl (AA (AD (vI ((AU c (AN c)).2.2)) rfl (AF (AC (?_))))))
   refine AE (?_)
   refine AE (?_)
   refine AB kR (AA (BJ 3 JY (c.guardians) rfl hp7681 (fun _ _ _ h=>EO h) fun a7719 hp7720=>(AA (BV U22_ rfl rfl hp7720 fun v7721 hl7722=>(?_)))))
   have:=hl7722.len_le
   refine AA (CG U22_ rfl hl7722 (AA (AG (vI 0) rfl (AF (AC (?_))))))
   refine BQ (?_)
   refine DI (fun mI FI wI=>∃ (k:Nat) (vr0_b7682_3:Value) (vr0_b7682_4:Value) (B:List Nat),k≤c.guardians.length∧mI=c.guardians.length - k∧(∃ F1,FI=FR F1 [(1,vP (some a7676)),(2,vP (some ⟨b7682,0,none⟩)),(3,vI ((AU c (AN c)).2.1)),(6,vI (AN c)),(8,vI ((AI c k).2)),(47,v7721),(48,vI (c.guardians.length:Int)),(49,vI ((k:Nat):Int)),(80,undef)])∧St w O wI B∧BD Enc.int wI (B++O) vr0_b7682_3 ((AI c k).1.guardians)∧BD Enc.recovery wI (B++O) vr0_b7682_4 ((AI c k).1.recs)∧PT Enc.circle wI (B++O) (.pointer (some a7676)) (c)∧BD Enc.int wI (B++O) (v7721) (c.guardians)∧GO wI b7682 28 [vI ((AI c k).1.epoch),vI ((AI c k).1.threshold),vI ((AI c k).1.wait),vr0_b7682_3,vr0_b7682_4]∧b7682∈B) (c.guardians.length - (0)) ?_ ?_
   ·exact ⟨(0),d7715,d7717,(b7682 :: []),oM,rfl,⟨_,AY _ ⟨rfl,rfl,rfl,rfl,(by rfl),rfl,rfl,(by rfl),rfl,trivial⟩⟩,s7711,(by rw [show (AI c (0)).1.guardians=((AU c (AN c)).1).guardians from rfl];exact hd7716),(by rw [show (AI c (0)).1.recs=((AU c (AN c)).1).recs from rfl];exact hd7718),hp7681,hl7722,(by rw [show ([vI ((AI c (0)).1.epoch),vI ((AI c (0)).1.threshold),vI ((AI c (0)).1.wait),d7715,d7717]:List Value)=[vI (((AU c (AN c)).1).epoch),vI (((AU c (AN c)).1).threshold),vI (((AU c (AN c)).1).wait),d7715,d7717] from rfl];exact bx7714),(by (repeat (exact List.mem_cons_self)))⟩
   ·intro ml0 F wl0 hI
    clear hp7681 hl7722
    obtain ⟨k,vr0_b7682_3,vr0_b7682_4,Bl0,hr0_0,hm0,⟨Fl0,rfl⟩,sl0,hrd0_b7682_3,hrd0_b7682_4,hp7681,hl7722,hbs_0_b7682,hin_b7682⟩:=hI
    have:=hrd0_b7682_3.len_le
    have:=hrd0_b7682_4.len_le
    refine AE (?_)
    refine AB kR (AA (DZ .i64 ((k:Nat):Int) (c.guardians.length:Int) rfl rfl (AF (AC (?_)))))
    refine AE (?_)
    refine AL (decide (((k:Nat):Int)<(c.guardians.length:Int))) rfl rfl (fun hc7723=>?_) (fun hc7723=>?_)
    ·have hp7724:((k:Nat):Int)<(c.guardians.length:Int):=by simpa using hc7723
     refine AT (AC (?_))
     refine AE (?_)
     refine BQ (?_)
     refine AE (?_)
     refine AB kR (AA (DG U22_ MO .i64 ((k:Nat):Int) k rfl rfl rfl hl7722 oM fun a7725 hp7726=>(AA (CC U3_ rfl rfl hp7726 (AA (AD (vI (c.guardians[k]!)) rfl (AF (AC (?_)))))))))
     refine AE (?_)
     refine AB kR (AA (AG (vI ((AI c k).2)) rfl (AA (EN .i64 ((AI c k).2) (0:Int) rfl rfl (AF (AC (?_)))))))
     refine AL (((AI c k).2) == (0:Int)) rfl rfl (fun hc7727=>?_) (fun hc7727=>?_)
     ·have hp7728:(AI c k).2=(0:Int):=by simpa using hc7727
      refine AB kR (AA (BM (vs:=[vI ((AI c k).1.epoch),vI ((AI c k).1.threshold),vI ((AI c k).1.wait),vr0_b7682_3,vr0_b7682_4]) U28_ rfl BK rfl hbs_0_b7682 rfl (AA (AG (vI ((AU c (AN c)).2.1)) rfl (AA (AG (vI (c.guardians[k]!)) rfl (AA (BC (vs:=[vA #[vI ((AI c k).1.epoch),vI ((AI c k).1.threshold),vI ((AI c k).1.wait),vr0_b7682_3,vr0_b7682_4],vI ((AU c (AN c)).2.1),vI (c.guardians[k]!)]) PK (OA (O:=Bl0++O) [vI ((AI c k).1.epoch),vI ((AI c k).1.threshold),vI ((AI c k).1.wait),vr0_b7682_3,vr0_b7682_4] ((AI c k).1) ((AU c (AN c)).2.1) (c.guardians[k]!) wl0 ⟨_,_,rfl,hrd0_b7682_3,hrd0_b7682_4⟩ sl0.lt) rfl sl0 fun v7729 w7730 s7731 m7732 k7733 r7734=>(?_)))))))))
      obtain ⟨cs7735,rfl,hs7736⟩:=r7734
      have hp7681:=hp7681.mv m7732
      have hl7722:=hl7722.mv m7732
      have hbs_0_b7682:=hbs_0_b7682.keep k7733 (by simp)
      refine AA (AG (vT #[vA cs7735.toArray,vI ((BN ((AI c k).1) ((AU c (AN c)).2.1) (AZ ((AI c k).1) (c.guardians[k]!))).2)]) rfl (AA (AK (vA cs7735.toArray) rfl rfl (AA (AK (vI ((BN ((AI c k).1) ((AU c (AN c)).2.1) (AZ ((AI c k).1) (c.guardians[k]!))).2)) rfl rfl (?_))))))
      obtain ⟨d7742,d7744,rfl,hd7743,hd7745⟩:=hs7736
      have:=hd7743.len_le
      have:=hd7745.len_le
      refine BW (BA (vs:=[vI (((BN ((AI c k).1) ((AU c (AN c)).2.1) (AZ ((AI c k).1) (c.guardians[k]!))).1).epoch),vI (((BN ((AI c k).1) ((AU c (AN c)).2.1) (AZ ((AI c k).1) (c.guardians[k]!))).1).threshold),vI (((BN ((AI c k).1) ((AU c (AN c)).2.1) (AZ ((AI c k).1) (c.guardians[k]!))).1).wait),d7742,d7744]) (.agg #[vI (((BN ((AI c k).1) ((AU c (AN c)).2.1) (AZ ((AI c k).1) (c.guardians[k]!))).1).epoch),vI (((BN ((AI c k).1) ((AU c (AN c)).2.1) (AZ ((AI c k).1) (c.guardians[k]!))).1).threshold),vI (((BN ((AI c k).1) ((AU c (AN c)).2.1) (AZ ((AI c k).1) (c.guardians[k]!))).1).wait),d7742,d7744]) rfl rfl rfl BK (fun u hu=>by simp only [List.mem_cons,List.not_mem_nil,or_false] at hu;rcases hu with rfl|rfl|rfl|rfl|rfl <;> first|rfl|exact hd7743.oneCell|exact hd7745.oneCell) (by repeat (assumption)) hbs_0_b7682 oT s7731 fun w7737 s7738 m7739 k7740 bx7741=>(?_))
      have hp7681:=hp7681.mv m7739
      have hl7722:=hl7722.mv m7739
      have hd7743:=hd7743.mv m7739
      have hd7745:=hd7745.mv m7739
      refine AA (AD (vI ((BN ((AI c k).1) ((AU c (AN c)).2.1) (AZ ((AI c k).1) (c.guardians[k]!))).2)) rfl (AF (CI (AC (?_)))))
      refine AB kR (AA (DD .i64 ((k:Nat):Int) (1:Int) (((k+1:Nat):Int)) rfl rfl (FT oM oM) (AA (AG (vI ((k+1:Nat):Int)) rfl (AF (AC (?_)))))))
      exact ⟨_,oM,(k+1),d7742,d7744,Bl0,oM,rfl,⟨_,AY _ ⟨rfl,rfl,rfl,rfl,(by exact congrArg (Value.int _) (by ((rw [PQ aS];done)))),rfl,rfl,(by rfl),rfl,trivial⟩⟩,s7738,(by rw [show (AI c (k+1)).1.guardians=((BN ((AI c k).1) ((AU c (AN c)).2.1) (AZ ((AI c k).1) (c.guardians[k]!))).1).guardians from by (rw [PQ aS];done)];exact hd7743),(by rw [show (AI c (k+1)).1.recs=((BN ((AI c k).1) ((AU c (AN c)).2.1) (AZ ((AI c k).1) (c.guardians[k]!))).1).recs from by (rw [PQ aS];done)];exact hd7745),hp7681,hl7722,(by rw [show ([vI ((AI c (k+1)).1.epoch),vI ((AI c (k+1)).1.threshold),vI ((AI c (k+1)).1.wait),d7742,d7744]:List Value)=[vI (((BN ((AI c k).1) ((AU c (AN c)).2.1) (AZ ((AI c k).1) (c.guardians[k]!))).1).epoch),vI (((BN ((AI c k).1) ((AU c (AN c)).2.1) (AZ ((AI c k).1) (c.guardians[k]!))).1).threshold),vI (((BN ((AI c k).1) ((AU c (AN c)).2.1) (AZ ((AI c k).1) (c.guardians[k]!))).1).wait),d7742,d7744] from by (rw [PQ aS];done)];exact bx7741),aS⟩
     ·have hp7746:(AI c k).2≠(0:Int):=by simpa using hc7727
      refine AT (CI (AC (?_)))
      refine AB kR (AA (DD .i64 ((k:Nat):Int) (1:Int) (((k+1:Nat):Int)) rfl rfl (FT oM oM) (AA (AG (vI ((k+1:Nat):Int)) rfl (AF (AC (?_)))))))
      exact ⟨_,oM,(k+1),vr0_b7682_3,vr0_b7682_4,Bl0,oM,rfl,⟨_,AY _ ⟨rfl,rfl,rfl,rfl,(by exact congrArg (Value.int _) (by ((rw [PN aS];done)))),rfl,rfl,(by rfl),rfl,trivial⟩⟩,sl0,(by rw [show (AI c (k+1)).1.guardians=(AI c k).1.guardians from by (rw [PN aS];done)];exact hrd0_b7682_3),(by rw [show (AI c (k+1)).1.recs=(AI c k).1.recs from by (rw [PN aS];done)];exact hrd0_b7682_4),hp7681,hl7722,(by rw [show ([vI ((AI c (k+1)).1.epoch),vI ((AI c (k+1)).1.threshold),vI ((AI c (k+1)).1.wait),vr0_b7682_3,vr0_b7682_4]:List Value)=[vI ((AI c k).1.epoch),vI ((AI c k).1.threshold),vI ((AI c k).1.wait),vr0_b7682_3,vr0_b7682_4] from by (rw [PN aS];done)];exact hbs_0_b7682),aS⟩
    ·have hp7747:(c.guardians.length:Int)≤((k:Nat):Int):=by simpa using hc7723
     obtain rfl:k=c.guardians.length:=by omega
     refine DH (CD (CD (DB (AC (?_)))))
     refine AE (?_)
     refine AE (?_)
     refine AB kR (AA (AG (vI ((AI c c.guardians.length).2)) rfl (AA (EN .i64 ((AI c c.guardians.length).2) (0:Int) rfl rfl (AF (AC (?_)))))))
     refine AL (((AI c c.guardians.length).2) == (0:Int)) rfl rfl (fun hc7748=>?_) (fun hc7748=>?_)
     ·have hp7749:(AI c c.guardians.length).2=(0:Int):=by simpa using hc7748
      refine AB kR (AA (BM (vs:=[vI ((AI c c.guardians.length).1.epoch),vI ((AI c c.guardians.length).1.threshold),vI ((AI c c.guardians.length).1.wait),vr0_b7682_3,vr0_b7682_4]) U28_ rfl BK rfl hbs_0_b7682 rfl (AA (AG (vI ((AU c (AN c)).2.1)) rfl (AA (AG (vI (AN c)) rfl (AA (BJ 2 f_28_2 (c.wait) rfl hp7681 (fun _ _ _ h=>IU h) fun a7750 hp7751=>(AA (CC U3_ rfl rfl hp7751 (AA (DD .i64 (AN c) c.wait ((AN c+c.wait)) rfl rfl (FT (by have:=app_w (c:=c) aS;omega) (by have:=app_w (c:=c) aS;omega)) (AA (o_min .i64 (1023:Int) (AN c+c.wait) rfl rfl (AA (BC (vs:=[vA #[vI ((AI c c.guardians.length).1.epoch),vI ((AI c c.guardians.length).1.threshold),vI ((AI c c.guardians.length).1.wait),vr0_b7682_3,vr0_b7682_4],vI ((AU c (AN c)).2.1),vI (if (AN c+c.wait)<(1023:Int) then (AN c+c.wait) else (1023:Int))]) TP (TE (O:=Bl0++O) [vI ((AI c c.guardians.length).1.epoch),vI ((AI c c.guardians.length).1.threshold),vI ((AI c c.guardians.length).1.wait),vr0_b7682_3,vr0_b7682_4] ((AI c c.guardians.length).1) ((AU c (AN c)).2.1) (if (AN c+c.wait)<(1023:Int) then (AN c+c.wait) else (1023:Int)) wl0 ⟨_,_,rfl,hrd0_b7682_3,hrd0_b7682_4⟩ sl0.lt) rfl sl0 fun v7752 w7753 s7754 m7755 k7756 r7757=>(?_)))))))))))))))))
      obtain ⟨cs7758,rfl,hs7759⟩:=r7757
      have hbs_0_b7682:=hbs_0_b7682.keep k7756 (by simp)
      refine AA (AG (vT #[vA cs7758.toArray,vI ((BN ((AI c c.guardians.length).1) ((AU c (AN c)).2.1) (AW ((AI c c.guardians.length).1) (if (AN c+c.wait)<(1023:Int) then (AN c+c.wait) else (1023:Int)))).2)]) rfl (AA (AK (vA cs7758.toArray) rfl rfl (AA (AK (vI ((BN ((AI c c.guardians.length).1) ((AU c (AN c)).2.1) (AW ((AI c c.guardians.length).1) (if (AN c+c.wait)<(1023:Int) then (AN c+c.wait) else (1023:Int)))).2)) rfl rfl (?_))))))
      obtain ⟨d7765,d7767,rfl,hd7766,hd7768⟩:=hs7759
      have:=hd7766.len_le
      have:=hd7768.len_le
      refine BW (BA (vs:=[vI (((BN ((AI c c.guardians.length).1) ((AU c (AN c)).2.1) (AW ((AI c c.guardians.length).1) (if (AN c+c.wait)<(1023:Int) then (AN c+c.wait) else (1023:Int)))).1).epoch),vI (((BN ((AI c c.guardians.length).1) ((AU c (AN c)).2.1) (AW ((AI c c.guardians.length).1) (if (AN c+c.wait)<(1023:Int) then (AN c+c.wait) else (1023:Int)))).1).threshold),vI (((BN ((AI c c.guardians.length).1) ((AU c (AN c)).2.1) (AW ((AI c c.guardians.length).1) (if (AN c+c.wait)<(1023:Int) then (AN c+c.wait) else (1023:Int)))).1).wait),d7765,d7767]) (.agg #[vI (((BN ((AI c c.guardians.length).1) ((AU c (AN c)).2.1) (AW ((AI c c.guardians.length).1) (if (AN c+c.wait)<(1023:Int) then (AN c+c.wait) else (1023:Int)))).1).epoch),vI (((BN ((AI c c.guardians.length).1) ((AU c (AN c)).2.1) (AW ((AI c c.guardians.length).1) (if (AN c+c.wait)<(1023:Int) then (AN c+c.wait) else (1023:Int)))).1).threshold),vI (((BN ((AI c c.guardians.length).1) ((AU c (AN c)).2.1) (AW ((AI c c.guardians.length).1) (if (AN c+c.wait)<(1023:Int) then (AN c+c.wait) else (1023:Int)))).1).wait),d7765,d7767]) rfl rfl rfl BK (fun u hu=>by simp only [List.mem_cons,List.not_mem_nil,or_false] at hu;rcases hu with rfl|rfl|rfl|rfl|rfl <;> first|rfl|exact hd7766.oneCell|exact hd7768.oneCell) (by repeat (assumption)) hbs_0_b7682 oT s7754 fun w7760 s7761 m7762 k7763 bx7764=>(?_))
      have hd7766:=hd7766.mv m7762
      have hd7768:=hd7768.mv m7762
      refine AA (AD (vI ((BN ((AI c c.guardians.length).1) ((AU c (AN c)).2.1) (AW ((AI c c.guardians.length).1) (if (AN c+c.wait)<(1023:Int) then (AN c+c.wait) else (1023:Int)))).2)) rfl (AF (AC (?_))))
      refine AE (?_)
      refine AB kR (AA (BM (vs:=[vI (((BN ((AI c c.guardians.length).1) ((AU c (AN c)).2.1) (AW ((AI c c.guardians.length).1) (if (AN c+c.wait)<(1023:Int) then (AN c+c.wait) else (1023:Int)))).1).epoch),vI (((BN ((AI c c.guardians.length).1) ((AU c (AN c)).2.1) (AW ((AI c c.guardians.length).1) (if (AN c+c.wait)<(1023:Int) then (AN c+c.wait) else (1023:Int)))).1).threshold),vI (((BN ((AI c c.guardians.length).1) ((AU c (AN c)).2.1) (AW ((AI c c.guardians.length).1) (if (AN c+c.wait)<(1023:Int) then (AN c+c.wait) else (1023:Int)))).1).wait),d7765,d7767]) U28_ rfl BK rfl bx7764 rfl (AA (AG (vI ((AU c (AN c)).2.1)) rfl (AA (AG (vI ((BN ((AI c c.guardians.length).1) ((AU c (AN c)).2.1) (AW ((AI c c.guardians.length).1) (if (AN c+c.wait)<(1023:Int) then (AN c+c.wait) else (1023:Int)))).2)) rfl (AA (EN .i64 ((BN ((AI c c.guardians.length).1) ((AU c (AN c)).2.1) (AW ((AI c c.guardians.length).1) (if (AN c+c.wait)<(1023:Int) then (AN c+c.wait) else (1023:Int)))).2) (0:Int) rfl rfl (BW (BA (vs:=[vI (((BN ((AI c c.guardians.length).1) ((AU c (AN c)).2.1) (AW ((AI c c.guardians.length).1) (if (AN c+c.wait)<(1023:Int) then (AN c+c.wait) else (1023:Int)))).1).epoch),vI (((BN ((AI c c.guardians.length).1) ((AU c (AN c)).2.1) (AW ((AI c c.guardians.length).1) (if (AN c+c.wait)<(1023:Int) then (AN c+c.wait) else (1023:Int)))).1).threshold),vI (((BN ((AI c c.guardians.length).1) ((AU c (AN c)).2.1) (AW ((AI c c.guardians.length).1) (if (AN c+c.wait)<(1023:Int) then (AN c+c.wait) else (1023:Int)))).1).wait),d7765,d7767]) (.agg #[vI (((BN ((AI c c.guardians.length).1) ((AU c (AN c)).2.1) (AW ((AI c c.guardians.length).1) (if (AN c+c.wait)<(1023:Int) then (AN c+c.wait) else (1023:Int)))).1).epoch),vI (((BN ((AI c c.guardians.length).1) ((AU c (AN c)).2.1) (AW ((AI c c.guardians.length).1) (if (AN c+c.wait)<(1023:Int) then (AN c+c.wait) else (1023:Int)))).1).threshold),vI (((BN ((AI c c.guardians.length).1) ((AU c (AN c)).2.1) (AW ((AI c c.guardians.length).1) (if (AN c+c.wait)<(1023:Int) then (AN c+c.wait) else (1023:Int)))).1).wait),d7765,d7767]) rfl rfl rfl BK (fun u hu=>by simp only [List.mem_cons,List.not_mem_nil,or_false] at hu;rcases hu with rfl|rfl|rfl|rfl|rfl <;> first|rfl|exact hd7766.oneCell|exact hd7768.oneCell) (by repeat (assumption)) bx7764 oT s7761 fun w7769 s7770 m7771 k7772 bx7773=>(?_)))))))))))
      have hd7766:=hd7766.mv m7771
      have hd7768:=hd7768.mv m7771
      refine AA (AD (vI ((AU c (AN c)).2.1)) rfl (AA (AD (vO (((BN ((AI c c.guardians.length).1) ((AU c (AN c)).2.1) (AW ((AI c c.guardians.length).1) (if (AN c+c.wait)<(1023:Int) then (AN c+c.wait) else (1023:Int)))).2) == (0:Int))) rfl (AF (AC (?_))))))
      refine AM (AX rfl (FV rfl (DX (vs:=[vI (((BN ((AI c c.guardians.length).1) ((AU c (AN c)).2.1) (AW ((AI c c.guardians.length).1) (if (AN c+c.wait)<(1023:Int) then (AN c+c.wait) else (1023:Int)))).1).epoch),vI (((BN ((AI c c.guardians.length).1) ((AU c (AN c)).2.1) (AW ((AI c c.guardians.length).1) (if (AN c+c.wait)<(1023:Int) then (AN c+c.wait) else (1023:Int)))).1).threshold),vI (((BN ((AI c c.guardians.length).1) ((AU c (AN c)).2.1) (AW ((AI c c.guardians.length).1) (if (AN c+c.wait)<(1023:Int) then (AN c+c.wait) else (1023:Int)))).1).wait),d7765,d7767]) rfl U28_ rfl BK rfl bx7773 rfl) (DM rfl rfl) (DM rfl rfl)) (?_))
      have e7774:((CJ c).1)=((BN ((AI c c.guardians.length).1) ((AU c (AN c)).2.1) (AW ((AI c c.guardians.length).1) (if (AN c+c.wait)<(1023:Int) then (AN c+c.wait) else (1023:Int)))).1):=by exact congrArg (fun p=>p.1) (show CJ c=_ from RB aS aS)
      have e7775:((CJ c).2.1)=((AU c (AN c)).2.1):=by exact congrArg (fun p=>p.2.1) (show CJ c=_ from RB aS aS)
      have e7776:((CJ c).2.2)=(((BN ((AI c c.guardians.length).1) ((AU c (AN c)).2.1) (AW ((AI c c.guardians.length).1) (if (AN c+c.wait)<(1023:Int) then (AN c+c.wait) else (1023:Int)))).2) == (0:Int)):=by exact congrArg (fun p=>p.2.2) (show CJ c=_ from RB aS aS)
      exact ⟨_,rfl,s7770.keep,by rw [e7774,e7775,e7776];exact ⟨[vI (((BN ((AI c c.guardians.length).1) ((AU c (AN c)).2.1) (AW ((AI c c.guardians.length).1) (if (AN c+c.wait)<(1023:Int) then (AN c+c.wait) else (1023:Int)))).1).epoch),vI (((BN ((AI c c.guardians.length).1) ((AU c (AN c)).2.1) (AW ((AI c c.guardians.length).1) (if (AN c+c.wait)<(1023:Int) then (AN c+c.wait) else (1023:Int)))).1).threshold),vI (((BN ((AI c c.guardians.length).1) ((AU c (AN c)).2.1) (AW ((AI c c.guardians.length).1) (if (AN c+c.wait)<(1023:Int) then (AN c+c.wait) else (1023:Int)))).1).wait),d7765,d7767],rfl,Enc.out (B:=Bl0) ⟨_,_,rfl,hd7766,hd7768⟩⟩⟩
     ·have hp7777:(AI c c.guardians.length).2≠(0:Int):=by simpa using hc7748
      refine AT (AC (?_))
      refine AE (?_)
      refine AB kR (AA (BM (vs:=[vI ((AI c c.guardians.length).1.epoch),vI ((AI c c.guardians.length).1.threshold),vI ((AI c c.guardians.length).1.wait),vr0_b7682_3,vr0_b7682_4]) U28_ rfl BK rfl hbs_0_b7682 rfl (AA (AG (vI ((AU c (AN c)).2.1)) rfl (AA (AG (vI ((AI c c.guardians.length).2)) rfl (AA (EN .i64 ((AI c c.guardians.length).2) (0:Int) rfl rfl (BW (BA (vs:=[vI ((AI c c.guardians.length).1.epoch),vI ((AI c c.guardians.length).1.threshold),vI ((AI c c.guardians.length).1.wait),vr0_b7682_3,vr0_b7682_4]) (.agg #[vI ((AI c c.guardians.length).1.epoch),vI ((AI c c.guardians.length).1.threshold),vI ((AI c c.guardians.length).1.wait),vr0_b7682_3,vr0_b7682_4]) rfl rfl rfl BK (fun u hu=>by simp only [List.mem_cons,List.not_mem_nil,or_false] at hu;rcases hu with rfl|rfl|rfl|rfl|rfl <;> first|rfl|exact hrd0_b7682_3.oneCell|exact hrd0_b7682_4.oneCell) (by repeat (assumption)) hbs_0_b7682 oT sl0 fun w7778 s7779 m7780 k7781 bx7782=>(?_)))))))))))
      have hrd0_b7682_3:=hrd0_b7682_3.mv m7780
      have hrd0_b7682_4:=hrd0_b7682_4.mv m7780
      refine AA (AD (vI ((AU c (AN c)).2.1)) rfl (AA (AD (vO (((AI c c.guardians.length).2) == (0:Int))) rfl (AF (AC (?_))))))
      refine AM (AX rfl (FV rfl (DX (vs:=[vI ((AI c c.guardians.length).1.epoch),vI ((AI c c.guardians.length).1.threshold),vI ((AI c c.guardians.length).1.wait),vr0_b7682_3,vr0_b7682_4]) rfl U28_ rfl BK rfl bx7782 rfl) (DM rfl rfl) (DM rfl rfl)) (?_))
      have e7783:((CJ c).1)=((AI c c.guardians.length).1):=by exact congrArg (fun p=>p.1) (show CJ c=_ from QZ aS aS)
      have e7784:((CJ c).2.1)=((AU c (AN c)).2.1):=by exact congrArg (fun p=>p.2.1) (show CJ c=_ from QZ aS aS)
      have e7785:((CJ c).2.2)=(((AI c c.guardians.length).2) == (0:Int)):=by exact congrArg (fun p=>p.2.2) (show CJ c=_ from QZ aS aS)
      exact ⟨_,rfl,s7779.keep,by rw [e7783,e7784,e7785];exact ⟨[vI ((AI c c.guardians.length).1.epoch),vI ((AI c c.guardians.length).1.threshold),vI ((AI c c.guardians.length).1.wait),vr0_b7682_3,vr0_b7682_4],rfl,Enc.out (B:=Bl0) ⟨_,_,rfl,hrd0_b7682_3,hrd0_b7682_4⟩⟩⟩
 ·have hp7786:(0:Int)<(c.recs.length:Int):=by simpa using hb7693
  refine BI rfl (BJ 4 DK (c.recs) rfl hp7681 (fun _ _ _ h=>CH h) fun a7787 hp7788=>(BI rfl (BV U26_ rfl rfl hp7788 fun v7789 hl7790=>(?_))))
  have:=hl7790.len_le
  refine BI rfl (AG (vI (c.recs.length:Int)) rfl (BI rfl (ID .i64 (c.recs.length:Int) (1:Int) (((c.recs.length - 1:Nat):Int)) rfl rfl (FT oM oM) (BI rfl (DG U26_ FX .i64 ((c.recs.length - 1:Nat):Int) (c.recs.length - 1) rfl rfl rfl hl7790 oM fun a7791 hp7792=>(BI rfl (BJ 2 KH ((c.recs[c.recs.length - 1]!).state) rfl hp7792 (fun _ _ _ h=>GC h) fun a7793 hp7794=>(BI rfl (CC U3_ rfl rfl hp7794 (BI rfl (EN .i64 ((c.recs[c.recs.length - 1]!).state) (0:Int) rfl rfl (AA (BL (vO (((c.recs[c.recs.length - 1]!).state) == (0:Int))) rfl rfl (AF (AC (?_))))))))))))))))
  refine AL (((c.recs[c.recs.length - 1]!).state) == (0:Int)) rfl rfl (fun hc7795=>?_) (fun hc7795=>?_)
  ·have hp7796:(c.recs[c.recs.length - 1]!).state=(0:Int):=by simpa using hc7795
   refine AE (?_)
   refine AB kR (AA (CR U28_ rfl BK rfl hp7681 fun cs7797 hs7798=>(?_)))
   obtain ⟨d7804,d7806,rfl,hd7805,hd7807⟩:=hs7798
   have:=hd7805.len_le
   have:=hd7807.len_le
   refine BW (BA (vs:=[vI c.epoch,vI c.threshold,vI c.wait,d7804,d7806]) (.agg #[vI c.epoch,vI c.threshold,vI c.wait,d7804,d7806]) rfl rfl rfl BK (fun u hu=>by simp only [List.mem_cons,List.not_mem_nil,or_false] at hu;rcases hu with rfl|rfl|rfl|rfl|rfl <;> first|rfl|exact hd7805.oneCell|exact hd7807.oneCell) (by repeat (constructor)) bx7687 oT s7684 fun w7799 s7800 m7801 k7802 bx7803=>(?_))
   have hd7805:=hd7805.mv m7801
   have hd7807:=hd7807.mv m7801
   refine AA (AD (vI 0) rfl (AA (AD (vO false) rfl (AF (AC (?_))))))
   refine AM (AP (AX rfl (FV rfl (DX (vs:=[vI c.epoch,vI c.threshold,vI c.wait,d7804,d7806]) rfl U28_ rfl BK rfl bx7803 rfl) (DM rfl rfl) (DM rfl rfl)) (?_)))
   have e7808:((CJ c).1)=c:=by exact congrArg (fun p=>p.1) (show CJ c=_ from done_1 (last_y aS aS))
   have e7809:((CJ c).2.1)=(0:Int):=by exact congrArg (fun p=>p.2.1) (show CJ c=_ from done_1 (last_y aS aS))
   have e7810:((CJ c).2.2)=false:=by exact congrArg (fun p=>p.2.2) (show CJ c=_ from done_1 (last_y aS aS))
   exact ⟨_,rfl,s7800.keep,by rw [e7808,e7809,e7810];exact ⟨[vI c.epoch,vI c.threshold,vI c.wait,d7804,d7806],rfl,Enc.out (B:=(b7682 :: [])) ⟨_,_,rfl,hd7805,hd7807⟩⟩⟩
  ·have hp7811:(c.recs[c.recs.length - 1]!).state≠(0:Int):=by simpa using hc7795
   refine AT (AC (?_))
   refine AE (?_)
   refine AB kR (AA (AD (vI 0) rfl (AF (AC (?_)))))
   refine QJ (fun FI wI=>GH c=false∧True∧(∃ F1,FI=FR F1 [(1,vP (some a7676)),(2,vP (some ⟨b7682,0,none⟩)),(6,vI (AN c)),(80,undef)])∧w7683=wI) ?_ ?_
   ·refine AE (?_)
    refine AB kR (AA (BJ 4 DK (c.recs) rfl hp7681 (fun _ _ _ h=>CH h) fun a7812 hp7813=>(AA (BV U26_ rfl rfl hp7813 fun v7814 hl7815=>(?_)))))
    have:=hl7815.len_le
    refine AA (CG U26_ rfl hl7815 (AA (AD (vI (c.recs.length:Int)) rfl (AF (AC (?_))))))
    refine AE (?_)
    refine AB kR (AA (AG (vI (c.recs.length:Int)) rfl (AA (FU .i64 (c.recs.length:Int) (0:Int) rfl rfl (AF (AC (?_)))))))
    have hb7816:(decide ((0:Int)<(c.recs.length:Int)))=true:=hb7693
    rw [hb7816]
    refine AL true rfl rfl (fun _=>?_) (fun h=>by cases h)
    refine AB kR (AA (BJ 4 DK (c.recs) rfl hp7681 (fun _ _ _ h=>CH h) fun a7817 hp7818=>(AA (BV U26_ rfl rfl hp7818 fun v7819 hl7820=>(?_)))))
    have:=hl7820.len_le
    refine AA (AG (vI (c.recs.length:Int)) rfl (AA (ID .i64 (c.recs.length:Int) (1:Int) (((c.recs.length - 1:Nat):Int)) rfl rfl (FT oM oM) (AA (DG U26_ FX .i64 ((c.recs.length - 1:Nat):Int) (c.recs.length - 1) rfl rfl rfl hl7820 oM fun a7821 hp7822=>(AA (BJ 1 NI ((c.recs[c.recs.length - 1]!).asked) rfl hp7822 (fun _ _ _ h=>MM h) fun a7823 hp7824=>(AA (CC U3_ rfl rfl hp7824 (AA (AD (vI ((c.recs[c.recs.length - 1]!).asked)) rfl (AF (AC (?_))))))))))))))
    exact ⟨(last_n (by exact .inr aS)),trivial,⟨_,AY _ ⟨rfl,rfl,(by exact congrArg (Value.int _) (by (exact (if_pos aS).symm))),rfl,trivial⟩⟩,rfl⟩
   ·rintro F wlc40 ⟨hrc40_0,hmc40,⟨Flc40,rfl⟩,rfl⟩
    refine AE (?_)
    refine AB kR (AA (CR U28_ rfl BK rfl hp7681 fun cs7825 hs7826=>(AA (AG (vI (AN c)) rfl (AA (BC (vs:=[vA cs7825.toArray,vI (AN c)]) SV (c_ask (O:=(b7682 :: [])++O) cs7825 c (AN c) w7683 hs7826 s7684.lt) rfl s7684 fun v7827 w7828 s7829 m7830 k7831 r7832=>(?_)))))))
    obtain ⟨cs7833,rfl,hs7834⟩:=r7832
    have hp7681:=hp7681.mv m7830
    have bx7687:=bx7687.keep k7831 (by simp)
    refine AA (AG (vT #[vA cs7833.toArray,vI ((AU c (AN c)).2.1),vI ((AU c (AN c)).2.2)]) rfl (AA (AK (vA cs7833.toArray) rfl rfl (AA (AK (vI ((AU c (AN c)).2.1)) rfl rfl (AA (AK (vI ((AU c (AN c)).2.2)) rfl rfl (?_))))))))
    obtain ⟨d7840,d7842,rfl,hd7841,hd7843⟩:=hs7834
    have:=hd7841.len_le
    have:=hd7843.len_le
    refine BW (BA (vs:=[vI (((AU c (AN c)).1).epoch),vI (((AU c (AN c)).1).threshold),vI (((AU c (AN c)).1).wait),d7840,d7842]) (.agg #[vI (((AU c (AN c)).1).epoch),vI (((AU c (AN c)).1).threshold),vI (((AU c (AN c)).1).wait),d7840,d7842]) rfl rfl rfl BK (fun u hu=>by simp only [List.mem_cons,List.not_mem_nil,or_false] at hu;rcases hu with rfl|rfl|rfl|rfl|rfl <;> first|rfl|exact hd7841.oneCell|exact hd7843.oneCell) (by repeat (constructor)) bx7687 oT s7829 fun w7835 s7836 m7837 k7838 bx7839=>(?_))
    have hp7681:=hp7681.mv m7837
    have hd7841:=hd7841.mv m7837
    have hd7843:=hd7843.mv m7837
    refine AA (AD (vI ((AU c (AN c)).2.1)) rfl (AA (AD (vI ((AU c (AN c)).2.2)) rfl (AF (AC (?_))))))
    refine AE (?_)
    refine AE (?_)
    refine AB kR (AA (BJ 3 JY (c.guardians) rfl hp7681 (fun _ _ _ h=>EO h) fun a7844 hp7845=>(AA (BV U22_ rfl rfl hp7845 fun v7846 hl7847=>(?_)))))
    have:=hl7847.len_le
    refine AA (CG U22_ rfl hl7847 (AA (AG (vI 0) rfl (AF (AC (?_))))))
    refine BQ (?_)
    refine DI (fun mI FI wI=>∃ (k:Nat) (vr0_b7682_3:Value) (vr0_b7682_4:Value) (B:List Nat),k≤c.guardians.length∧mI=c.guardians.length - k∧(∃ F1,FI=FR F1 [(1,vP (some a7676)),(2,vP (some ⟨b7682,0,none⟩)),(3,vI ((AU c (AN c)).2.1)),(6,vI (AN c)),(8,vI ((AI c k).2)),(47,v7846),(48,vI (c.guardians.length:Int)),(49,vI ((k:Nat):Int)),(80,undef)])∧St w O wI B∧BD Enc.int wI (B++O) vr0_b7682_3 ((AI c k).1.guardians)∧BD Enc.recovery wI (B++O) vr0_b7682_4 ((AI c k).1.recs)∧PT Enc.circle wI (B++O) (.pointer (some a7676)) (c)∧BD Enc.int wI (B++O) (v7846) (c.guardians)∧GO wI b7682 28 [vI ((AI c k).1.epoch),vI ((AI c k).1.threshold),vI ((AI c k).1.wait),vr0_b7682_3,vr0_b7682_4]∧b7682∈B) (c.guardians.length - (0)) ?_ ?_
    ·exact ⟨(0),d7840,d7842,(b7682 :: []),oM,rfl,⟨_,AY _ ⟨rfl,rfl,rfl,rfl,(by rfl),rfl,rfl,(by rfl),rfl,trivial⟩⟩,s7836,(by rw [show (AI c (0)).1.guardians=((AU c (AN c)).1).guardians from rfl];exact hd7841),(by rw [show (AI c (0)).1.recs=((AU c (AN c)).1).recs from rfl];exact hd7843),hp7681,hl7847,(by rw [show ([vI ((AI c (0)).1.epoch),vI ((AI c (0)).1.threshold),vI ((AI c (0)).1.wait),d7840,d7842]:List Value)=[vI (((AU c (AN c)).1).epoch),vI (((AU c (AN c)).1).threshold),vI (((AU c (AN c)).1).wait),d7840,d7842] from rfl];exact bx7839),(by (repeat (exact List.mem_cons_self)))⟩
    ·intro ml0 F wl0 hI
     clear hp7681 hl7847
     obtain ⟨k,vr0_b7682_3,vr0_b7682_4,Bl0,hr0_0,hm0,⟨Fl0,rfl⟩,sl0,hrd0_b7682_3,hrd0_b7682_4,hp7681,hl7847,hbs_0_b7682,hin_b7682⟩:=hI
     have:=hrd0_b7682_3.len_le
     have:=hrd0_b7682_4.len_le
     refine AE (?_)
     refine AB kR (AA (DZ .i64 ((k:Nat):Int) (c.guardians.length:Int) rfl rfl (AF (AC (?_)))))
     refine AE (?_)
     refine AL (decide (((k:Nat):Int)<(c.guardians.length:Int))) rfl rfl (fun hc7848=>?_) (fun hc7848=>?_)
     ·have hp7849:((k:Nat):Int)<(c.guardians.length:Int):=by simpa using hc7848
      refine AT (AC (?_))
      refine AE (?_)
      refine BQ (?_)
      refine AE (?_)
      refine AB kR (AA (DG U22_ MO .i64 ((k:Nat):Int) k rfl rfl rfl hl7847 oM fun a7850 hp7851=>(AA (CC U3_ rfl rfl hp7851 (AA (AD (vI (c.guardians[k]!)) rfl (AF (AC (?_)))))))))
      refine AE (?_)
      refine AB kR (AA (AG (vI ((AI c k).2)) rfl (AA (EN .i64 ((AI c k).2) (0:Int) rfl rfl (AF (AC (?_)))))))
      refine AL (((AI c k).2) == (0:Int)) rfl rfl (fun hc7852=>?_) (fun hc7852=>?_)
      ·have hp7853:(AI c k).2=(0:Int):=by simpa using hc7852
       refine AB kR (AA (BM (vs:=[vI ((AI c k).1.epoch),vI ((AI c k).1.threshold),vI ((AI c k).1.wait),vr0_b7682_3,vr0_b7682_4]) U28_ rfl BK rfl hbs_0_b7682 rfl (AA (AG (vI ((AU c (AN c)).2.1)) rfl (AA (AG (vI (c.guardians[k]!)) rfl (AA (BC (vs:=[vA #[vI ((AI c k).1.epoch),vI ((AI c k).1.threshold),vI ((AI c k).1.wait),vr0_b7682_3,vr0_b7682_4],vI ((AU c (AN c)).2.1),vI (c.guardians[k]!)]) PK (OA (O:=Bl0++O) [vI ((AI c k).1.epoch),vI ((AI c k).1.threshold),vI ((AI c k).1.wait),vr0_b7682_3,vr0_b7682_4] ((AI c k).1) ((AU c (AN c)).2.1) (c.guardians[k]!) wl0 ⟨_,_,rfl,hrd0_b7682_3,hrd0_b7682_4⟩ sl0.lt) rfl sl0 fun v7854 w7855 s7856 m7857 k7858 r7859=>(?_)))))))))
       obtain ⟨cs7860,rfl,hs7861⟩:=r7859
       have hp7681:=hp7681.mv m7857
       have hl7847:=hl7847.mv m7857
       have hbs_0_b7682:=hbs_0_b7682.keep k7858 (by simp)
       refine AA (AG (vT #[vA cs7860.toArray,vI ((BN ((AI c k).1) ((AU c (AN c)).2.1) (AZ ((AI c k).1) (c.guardians[k]!))).2)]) rfl (AA (AK (vA cs7860.toArray) rfl rfl (AA (AK (vI ((BN ((AI c k).1) ((AU c (AN c)).2.1) (AZ ((AI c k).1) (c.guardians[k]!))).2)) rfl rfl (?_))))))
       obtain ⟨d7867,d7869,rfl,hd7868,hd7870⟩:=hs7861
       have:=hd7868.len_le
       have:=hd7870.len_le
       refine BW (BA (vs:=[vI (((BN ((AI c k).1) ((AU c (AN c)).2.1) (AZ ((AI c k).1) (c.guardians[k]!))).1).epoch),vI (((BN ((AI c k).1) ((AU c (AN c)).2.1) (AZ ((AI c k).1) (c.guardians[k]!))).1).threshold),vI (((BN ((AI c k).1) ((AU c (AN c)).2.1) (AZ ((AI c k).1) (c.guardians[k]!))).1).wait),d7867,d7869]) (.agg #[vI (((BN ((AI c k).1) ((AU c (AN c)).2.1) (AZ ((AI c k).1) (c.guardians[k]!))).1).epoch),vI (((BN ((AI c k).1) ((AU c (AN c)).2.1) (AZ ((AI c k).1) (c.guardians[k]!))).1).threshold),vI (((BN ((AI c k).1) ((AU c (AN c)).2.1) (AZ ((AI c k).1) (c.guardians[k]!))).1).wait),d7867,d7869]) rfl rfl rfl BK (fun u hu=>by simp only [List.mem_cons,List.not_mem_nil,or_false] at hu;rcases hu with rfl|rfl|rfl|rfl|rfl <;> first|rfl|exact hd7868.oneCell|exact hd7870.oneCell) (by repeat (assumption)) hbs_0_b7682 oT s7856 fun w7862 s7863 m7864 k7865 bx7866=>(?_))
       have hp7681:=hp7681.mv m7864
       have hl7847:=hl7847.mv m7864
       have hd7868:=hd7868.mv m7864
       have hd7870:=hd7870.mv m7864
       refine AA (AD (vI ((BN ((AI c k).1) ((AU c (AN c)).2.1) (AZ ((AI c k).1) (c.guardians[k]!))).2)) rfl (AF (CI (AC (?_)))))
       refine AB kR (AA (DD .i64 ((k:Nat):Int) (1:Int) (((k+1:Nat):Int)) rfl rfl (FT oM oM) (AA (AG (vI ((k+1:Nat):Int)) rfl (AF (AC (?_)))))))
       exact ⟨_,oM,(k+1),d7867,d7869,Bl0,oM,rfl,⟨_,AY _ ⟨rfl,rfl,rfl,rfl,(by exact congrArg (Value.int _) (by ((rw [PQ aS];done)))),rfl,rfl,(by rfl),rfl,trivial⟩⟩,s7863,(by rw [show (AI c (k+1)).1.guardians=((BN ((AI c k).1) ((AU c (AN c)).2.1) (AZ ((AI c k).1) (c.guardians[k]!))).1).guardians from by (rw [PQ aS];done)];exact hd7868),(by rw [show (AI c (k+1)).1.recs=((BN ((AI c k).1) ((AU c (AN c)).2.1) (AZ ((AI c k).1) (c.guardians[k]!))).1).recs from by (rw [PQ aS];done)];exact hd7870),hp7681,hl7847,(by rw [show ([vI ((AI c (k+1)).1.epoch),vI ((AI c (k+1)).1.threshold),vI ((AI c (k+1)).1.wait),d7867,d7869]:List Value)=[vI (((BN ((AI c k).1) ((AU c (AN c)).2.1) (AZ ((AI c k).1) (c.guardians[k]!))).1).epoch),vI (((BN ((AI c k).1) ((AU c (AN c)).2.1) (AZ ((AI c k).1) (c.guardians[k]!))).1).threshold),vI (((BN ((AI c k).1) ((AU c (AN c)).2.1) (AZ ((AI c k).1) (c.guardians[k]!))).1).wait),d7867,d7869] from by (rw [PQ aS];done)];exact bx7866),aS⟩
      ·have hp7871:(AI c k).2≠(0:Int):=by simpa using hc7852
       refine AT (CI (AC (?_)))
       refine AB kR (AA (DD .i64 ((k:Nat):Int) (1:Int) (((k+1:Nat):Int)) rfl rfl (FT oM oM) (AA (AG (vI ((k+1:Nat):Int)) rfl (AF (AC (?_)))))))
       exact ⟨_,oM,(k+1),vr0_b7682_3,vr0_b7682_4,Bl0,oM,rfl,⟨_,AY _ ⟨rfl,rfl,rfl,rfl,(by exact congrArg (Value.int _) (by ((rw [PN aS];done)))),rfl,rfl,(by rfl),rfl,trivial⟩⟩,sl0,(by rw [show (AI c (k+1)).1.guardians=(AI c k).1.guardians from by (rw [PN aS];done)];exact hrd0_b7682_3),(by rw [show (AI c (k+1)).1.recs=(AI c k).1.recs from by (rw [PN aS];done)];exact hrd0_b7682_4),hp7681,hl7847,(by rw [show ([vI ((AI c (k+1)).1.epoch),vI ((AI c (k+1)).1.threshold),vI ((AI c (k+1)).1.wait),vr0_b7682_3,vr0_b7682_4]:List Value)=[vI ((AI c k).1.epoch),vI ((AI c k).1.threshold),vI ((AI c k).1.wait),vr0_b7682_3,vr0_b7682_4] from by (rw [PN aS];done)];exact hbs_0_b7682),aS⟩
     ·have hp7872:(c.guardians.length:Int)≤((k:Nat):Int):=by simpa using hc7848
      obtain rfl:k=c.guardians.length:=by omega
      refine DH (CD (CD (DB (AC (?_)))))
      refine AE (?_)
      refine AE (?_)
      refine AB kR (AA (AG (vI ((AI c c.guardians.length).2)) rfl (AA (EN .i64 ((AI c c.guardians.length).2) (0:Int) rfl rfl (AF (AC (?_)))))))
      refine AL (((AI c c.guardians.length).2) == (0:Int)) rfl rfl (fun hc7873=>?_) (fun hc7873=>?_)
      ·have hp7874:(AI c c.guardians.length).2=(0:Int):=by simpa using hc7873
       refine AB kR (AA (BM (vs:=[vI ((AI c c.guardians.length).1.epoch),vI ((AI c c.guardians.length).1.threshold),vI ((AI c c.guardians.length).1.wait),vr0_b7682_3,vr0_b7682_4]) U28_ rfl BK rfl hbs_0_b7682 rfl (AA (AG (vI ((AU c (AN c)).2.1)) rfl (AA (AG (vI (AN c)) rfl (AA (BJ 2 f_28_2 (c.wait) rfl hp7681 (fun _ _ _ h=>IU h) fun a7875 hp7876=>(AA (CC U3_ rfl rfl hp7876 (AA (DD .i64 (AN c) c.wait ((AN c+c.wait)) rfl rfl (FT (by have:=app_w (c:=c) aS;omega) (by have:=app_w (c:=c) aS;omega)) (AA (o_min .i64 (1023:Int) (AN c+c.wait) rfl rfl (AA (BC (vs:=[vA #[vI ((AI c c.guardians.length).1.epoch),vI ((AI c c.guardians.length).1.threshold),vI ((AI c c.guardians.length).1.wait),vr0_b7682_3,vr0_b7682_4],vI ((AU c (AN c)).2.1),vI (if (AN c+c.wait)<(1023:Int) then (AN c+c.wait) else (1023:Int))]) TP (TE (O:=Bl0++O) [vI ((AI c c.guardians.length).1.epoch),vI ((AI c c.guardians.length).1.threshold),vI ((AI c c.guardians.length).1.wait),vr0_b7682_3,vr0_b7682_4] ((AI c c.guardians.length).1) ((AU c (AN c)).2.1) (if (AN c+c.wait)<(1023:Int) then (AN c+c.wait) else (1023:Int)) wl0 ⟨_,_,rfl,hrd0_b7682_3,hrd0_b7682_4⟩ sl0.lt) rfl sl0 fun v7877 w7878 s7879 m7880 k7881 r7882=>(?_)))))))))))))))))
       obtain ⟨cs7883,rfl,hs7884⟩:=r7882
       have hbs_0_b7682:=hbs_0_b7682.keep k7881 (by simp)
       refine AA (AG (vT #[vA cs7883.toArray,vI ((BN ((AI c c.guardians.length).1) ((AU c (AN c)).2.1) (AW ((AI c c.guardians.length).1) (if (AN c+c.wait)<(1023:Int) then (AN c+c.wait) else (1023:Int)))).2)]) rfl (AA (AK (vA cs7883.toArray) rfl rfl (AA (AK (vI ((BN ((AI c c.guardians.length).1) ((AU c (AN c)).2.1) (AW ((AI c c.guardians.length).1) (if (AN c+c.wait)<(1023:Int) then (AN c+c.wait) else (1023:Int)))).2)) rfl rfl (?_))))))
       obtain ⟨d7890,d7892,rfl,hd7891,hd7893⟩:=hs7884
       have:=hd7891.len_le
       have:=hd7893.len_le
       refine BW (BA (vs:=[vI (((BN ((AI c c.guardians.length).1) ((AU c (AN c)).2.1) (AW ((AI c c.guardians.length).1) (if (AN c+c.wait)<(1023:Int) then (AN c+c.wait) else (1023:Int)))).1).epoch),vI (((BN ((AI c c.guardians.length).1) ((AU c (AN c)).2.1) (AW ((AI c c.guardians.length).1) (if (AN c+c.wait)<(1023:Int) then (AN c+c.wait) else (1023:Int)))).1).threshold),vI (((BN ((AI c c.guardians.length).1) ((AU c (AN c)).2.1) (AW ((AI c c.guardians.length).1) (if (AN c+c.wait)<(1023:Int) then (AN c+c.wait) else (1023:Int)))).1).wait),d7890,d7892]) (.agg #[vI (((BN ((AI c c.guardians.length).1) ((AU c (AN c)).2.1) (AW ((AI c c.guardians.length).1) (if (AN c+c.wait)<(1023:Int) then (AN c+c.wait) else (1023:Int)))).1).epoch),vI (((BN ((AI c c.guardians.length).1) ((AU c (AN c)).2.1) (AW ((AI c c.guardians.length).1) (if (AN c+c.wait)<(1023:Int) then (AN c+c.wait) else (1023:Int)))).1).threshold),vI (((BN ((AI c c.guardians.length).1) ((AU c (AN c)).2.1) (AW ((AI c c.guardians.length).1) (if (AN c+c.wait)<(1023:Int) then (AN c+c.wait) else (1023:Int)))).1).wait),d7890,d7892]) rfl rfl rfl BK (fun u hu=>by simp only [List.mem_cons,List.not_mem_nil,or_false] at hu;rcases hu with rfl|rfl|rfl|rfl|rfl <;> first|rfl|exact hd7891.oneCell|exact hd7893.oneCell) (by repeat (assumption)) hbs_0_b7682 oT s7879 fun w7885 s7886 m7887 k7888 bx7889=>(?_))
       have hd7891:=hd7891.mv m7887
       have hd7893:=hd7893.mv m7887
       refine AA (AD (vI ((BN ((AI c c.guardians.length).1) ((AU c (AN c)).2.1) (AW ((AI c c.guardians.length).1) (if (AN c+c.wait)<(1023:Int) then (AN c+c.wait) else (1023:Int)))).2)) rfl (AF (AC (?_))))
       refine AE (?_)
       refine AB kR (AA (BM (vs:=[vI (((BN ((AI c c.guardians.length).1) ((AU c (AN c)).2.1) (AW ((AI c c.guardians.length).1) (if (AN c+c.wait)<(1023:Int) then (AN c+c.wait) else (1023:Int)))).1).epoch),vI (((BN ((AI c c.guardians.length).1) ((AU c (AN c)).2.1) (AW ((AI c c.guardians.length).1) (if (AN c+c.wait)<(1023:Int) then (AN c+c.wait) else (1023:Int)))).1).threshold),vI (((BN ((AI c c.guardians.length).1) ((AU c (AN c)).2.1) (AW ((AI c c.guardians.length).1) (if (AN c+c.wait)<(1023:Int) then (AN c+c.wait) else (1023:Int)))).1).wait),d7890,d7892]) U28_ rfl BK rfl bx7889 rfl (AA (AG (vI ((AU c (AN c)).2.1)) rfl (AA (AG (vI ((BN ((AI c c.guardians.length).1) ((AU c (AN c)).2.1) (AW ((AI c c.guardians.length).1) (if (AN c+c.wait)<(1023:Int) then (AN c+c.wait) else (1023:Int)))).2)) rfl (AA (EN .i64 ((BN ((AI c c.guardians.length).1) ((AU c (AN c)).2.1) (AW ((AI c c.guardians.length).1) (if (AN c+c.wait)<(1023:Int) then (AN c+c.wait) else (1023:Int)))).2) (0:Int) rfl rfl (BW (BA (vs:=[vI (((BN ((AI c c.guardians.length).1) ((AU c (AN c)).2.1) (AW ((AI c c.guardians.length).1) (if (AN c+c.wait)<(1023:Int) then (AN c+c.wait) else (1023:Int)))).1).epoch),vI (((BN ((AI c c.guardians.length).1) ((AU c (AN c)).2.1) (AW ((AI c c.guardians.length).1) (if (AN c+c.wait)<(1023:Int) then (AN c+c.wait) else (1023:Int)))).1).threshold),vI (((BN ((AI c c.guardians.length).1) ((AU c (AN c)).2.1) (AW ((AI c c.guardians.length).1) (if (AN c+c.wait)<(1023:Int) then (AN c+c.wait) else (1023:Int)))).1).wait),d7890,d7892]) (.agg #[vI (((BN ((AI c c.guardians.length).1) ((AU c (AN c)).2.1) (AW ((AI c c.guardians.length).1) (if (AN c+c.wait)<(1023:Int) then (AN c+c.wait) else (1023:Int)))).1).epoch),vI (((BN ((AI c c.guardians.length).1) ((AU c (AN c)).2.1) (AW ((AI c c.guardians.length).1) (if (AN c+c.wait)<(1023:Int) then (AN c+c.wait) else (1023:Int)))).1).threshold),vI (((BN ((AI c c.guardians.length).1) ((AU c (AN c)).2.1) (AW ((AI c c.guardians.length).1) (if (AN c+c.wait)<(1023:Int) then (AN c+c.wait) else (1023:Int)))).1).wait),d7890,d7892]) rfl rfl rfl BK (fun u hu=>by simp only [List.mem_cons,List.not_mem_nil,or_false] at hu;rcases hu with rfl|rfl|rfl|rfl|rfl <;> first|rfl|exact hd7891.oneCell|exact hd7893.oneCell) (by repeat (assumption)) bx7889 oT s7886 fun w7894 s7895 m7896 k7897 bx7898=>(?_)))))))))))
       have hd7891:=hd7891.mv m7896
       have hd7893:=hd7893.mv m7896
       refine AA (AD (vI ((AU c (AN c)).2.1)) rfl (AA (AD (vO (((BN ((AI c c.guardians.length).1) ((AU c (AN c)).2.1) (AW ((AI c c.guardians.length).1) (if (AN c+c.wait)<(1023:Int) then (AN c+c.wait) else (1023:Int)))).2) == (0:Int))) rfl (AF (AC (?_))))))
       refine AM (AX rfl (FV rfl (DX (vs:=[vI (((BN ((AI c c.guardians.length).1) ((AU c (AN c)).2.1) (AW ((AI c c.guardians.length).1) (if (AN c+c.wait)<(1023:Int) then (AN c+c.wait) else (1023:Int)))).1).epoch),vI (((BN ((AI c c.guardians.length).1) ((AU c (AN c)).2.1) (AW ((AI c c.guardians.length).1) (if (AN c+c.wait)<(1023:Int) then (AN c+c.wait) else (1023:Int)))).1).threshold),vI (((BN ((AI c c.guardians.length).1) ((AU c (AN c)).2.1) (AW ((AI c c.guardians.length).1) (if (AN c+c.wait)<(1023:Int) then (AN c+c.wait) else (1023:Int)))).1).wait),d7890,d7892]) rfl U28_ rfl BK rfl bx7898 rfl) (DM rfl rfl) (DM rfl rfl)) (?_))
       have e7899:((CJ c).1)=((BN ((AI c c.guardians.length).1) ((AU c (AN c)).2.1) (AW ((AI c c.guardians.length).1) (if (AN c+c.wait)<(1023:Int) then (AN c+c.wait) else (1023:Int)))).1):=by exact congrArg (fun p=>p.1) (show CJ c=_ from RB aS aS)
       have e7900:((CJ c).2.1)=((AU c (AN c)).2.1):=by exact congrArg (fun p=>p.2.1) (show CJ c=_ from RB aS aS)
       have e7901:((CJ c).2.2)=(((BN ((AI c c.guardians.length).1) ((AU c (AN c)).2.1) (AW ((AI c c.guardians.length).1) (if (AN c+c.wait)<(1023:Int) then (AN c+c.wait) else (1023:Int)))).2) == (0:Int)):=by exact congrArg (fun p=>p.2.2) (show CJ c=_ from RB aS aS)
       exact ⟨_,rfl,s7895.keep,by rw [e7899,e7900,e7901];exact ⟨[vI (((BN ((AI c c.guardians.length).1) ((AU c (AN c)).2.1) (AW ((AI c c.guardians.length).1) (if (AN c+c.wait)<(1023:Int) then (AN c+c.wait) else (1023:Int)))).1).epoch),vI (((BN ((AI c c.guardians.length).1) ((AU c (AN c)).2.1) (AW ((AI c c.guardians.length).1) (if (AN c+c.wait)<(1023:Int) then (AN c+c.wait) else (1023:Int)))).1).threshold),vI (((BN ((AI c c.guardians.length).1) ((AU c (AN c)).2.1) (AW ((AI c c.guardians.length).1) (if (AN c+c.wait)<(1023:Int) then (AN c+c.wait) else (1023:Int)))).1).wait),d7890,d7892],rfl,Enc.out (B:=Bl0) ⟨_,_,rfl,hd7891,hd7893⟩⟩⟩
      ·have hp7902:(AI c c.guardians.length).2≠(0:Int):=by simpa using hc7873
       refine AT (AC (?_))
       refine AE (?_)
       refine AB kR (AA (BM (vs:=[vI ((AI c c.guardians.length).1.epoch),vI ((AI c c.guardians.length).1.threshold),vI ((AI c c.guardians.length).1.wait),vr0_b7682_3,vr0_b7682_4]) U28_ rfl BK rfl hbs_0_b7682 rfl (AA (AG (vI ((AU c (AN c)).2.1)) rfl (AA (AG (vI ((AI c c.guardians.length).2)) rfl (AA (EN .i64 ((AI c c.guardians.length).2) (0:Int) rfl rfl (BW (BA (vs:=[vI ((AI c c.guardians.length).1.epoch),vI ((AI c c.guardians.length).1.threshold),vI ((AI c c.guardians.length).1.wait),vr0_b7682_3,vr0_b7682_4]) (.agg #[vI ((AI c c.guardians.length).1.epoch),vI ((AI c c.guardians.length).1.threshold),vI ((AI c c.guardians.length).1.wait),vr0_b7682_3,vr0_b7682_4]) rfl rfl rfl BK (fun u hu=>by simp only [List.mem_cons,List.not_mem_nil,or_false] at hu;rcases hu with rfl|rfl|rfl|rfl|rfl <;> first|rfl|exact hrd0_b7682_3.oneCell|exact hrd0_b7682_4.oneCell) (by repeat (assumption)) hbs_0_b7682 oT sl0 fun w7903 s7904 m7905 k7906 bx7907=>(?_)))))))))))
       have hrd0_b7682_3:=hrd0_b7682_3.mv m7905
       have hrd0_b7682_4:=hrd0_b7682_4.mv m7905
       refine AA (AD (vI ((AU c (AN c)).2.1)) rfl (AA (AD (vO (((AI c c.guardians.length).2) == (0:Int))) rfl (AF (AC (?_))))))
       refine AM (AX rfl (FV rfl (DX (vs:=[vI ((AI c c.guardians.length).1.epoch),vI ((AI c c.guardians.length).1.threshold),vI ((AI c c.guardians.length).1.wait),vr0_b7682_3,vr0_b7682_4]) rfl U28_ rfl BK rfl bx7907 rfl) (DM rfl rfl) (DM rfl rfl)) (?_))
       have e7908:((CJ c).1)=((AI c c.guardians.length).1):=by exact congrArg (fun p=>p.1) (show CJ c=_ from QZ aS aS)
       have e7909:((CJ c).2.1)=((AU c (AN c)).2.1):=by exact congrArg (fun p=>p.2.1) (show CJ c=_ from QZ aS aS)
       have e7910:((CJ c).2.2)=(((AI c c.guardians.length).2) == (0:Int)):=by exact congrArg (fun p=>p.2.2) (show CJ c=_ from QZ aS aS)
       exact ⟨_,rfl,s7904.keep,by rw [e7908,e7909,e7910];exact ⟨[vI ((AI c c.guardians.length).1.epoch),vI ((AI c c.guardians.length).1.threshold),vI ((AI c c.guardians.length).1.wait),vr0_b7682_3,vr0_b7682_4],rfl,Enc.out (B:=Bl0) ⟨_,_,rfl,hrd0_b7682_3,hrd0_b7682_4⟩⟩⟩
set_option maxHeartbeats 4000000 in
set_option maxRecDepth 100000 in
theorem c_few46 {O:List Nat} (c_cs:List Value) (c:Circle) (l_v:Value) (l:List Share) (w:World) (h_c:Enc.circle.rd w O c_cs c) (h_l:BD Enc.share w O l_v l) (hO:∀ b∈O,b<w.heap.size):CE Try.prog 23 [.agg c_cs.toArray,l_v] w (fun v _=>v = .bool (MQ c && OW l)):= by
 have h_c:Enc.circle.rd w ([]++O) c_cs c:=h_c
 have lim_l:=h_l.len_le
 have h_l:BD Enc.share w ([]++O) l_v l:=h_l
 have s0:St w O w []:=St.start hO
 refine BP 11 Try.func23 rfl rfl oT (fun F0=>?_)
 refine AE (?_)
 refine AB kR (AA (DO (E:=Enc.circle) (vA c_cs.toArray) (c_cs) c rfl rfl h_c s0 fun a7911 w7912 s7913 m7914 k7915 hp7916=>(?_)))
 have h_l:=h_l.mv m7914
 refine AA (AD (vO false) rfl (AF (AC (?_))))
 refine AE (?_)
 refine AB kR (AA (CR U28_ rfl BK rfl hp7916 fun cs7917 hs7918=>(AA (BC (vs:=[vA cs7917.toArray]) enter_61 (c_few (O:=[]++O) cs7917 c w7912 hs7918 s7913.lt) rfl s7913 fun v7919 w7920 s7921 m7922 k7923 r7924=>(?_)))))
 obtain rfl:=r7924
 have h_l:=h_l.mv m7922
 refine AA (AG (vO (MQ c)) rfl (?_))
 cases hb7925:(MQ c)
 ·have hp7926:(MQ c)=false:=by simpa using hb7925
  refine AS rfl (AS rfl (AA (CA (vO false) rfl rfl (AA (AD (vO false) rfl (AF (AC (?_))))))))
  refine AM (AX rfl (CP rfl rfl rfl) (?_))
  have e:(MQ c && OW l)=false:=by simp [*]
  exact ⟨_,rfl,s7921.keep,(by rfl)⟩
 ·have hp7927:(MQ c)=true:=by simpa using hb7925
  refine BI rfl (AG (l_v) rfl (BI rfl (BC (vs:=[l_v]) enter_21 (c_few8 (O:=[]++O) l_v l w7920 h_l s7921.lt) rfl s7921 fun v7928 w7929 s7930 m7931 k7932 r7933=>(?_))))
  obtain rfl:=r7933
  refine AA (BL (vO (OW l)) rfl rfl (AA (AD (vO (OW l)) rfl (AF (AC (?_))))))
  refine AM (AX rfl (CP rfl rfl rfl) (?_))
  have e:(MQ c && OW l)=(OW l):=by simp [*]
  exact ⟨_,rfl,s7930.keep,(by rfl)⟩
open Go.Fw Go.RowKit
set_option maxHeartbeats 4000000 in
set_option maxRecDepth 100000 in
theorem c_subset {O:List Nat} (l_v:Value) (l:List Share) (mask:UInt8) (w:World) (h_l:BD Enc.share w O l_v l) (hpre0:l.length≤8) (hO:∀ b∈O,b<w.heap.size):CE Try.prog 25 [l_v,vB mask] w (fun v w'=>∃ (x0:Value),v=x0∧BD Enc.share w' (O) x0 (CX l mask l.length)):= by
 have lim_l:=h_l.len_le
 have h_l:BD Enc.share w ([]++O) l_v l:=h_l
 have s0:St w O w []:=St.start hO
 refine BP 25 Try.func25 rfl rfl oT (fun F0=>?_)
 refine AE (?_)
 refine AB kR (AA (AD (.slice none 0 0) rfl (AF (AC (?_)))))
 refine AE (?_)
 refine AE (?_)
 refine AB kR (AA (AG (l_v) rfl (AA (CG U32_ rfl h_l (AA (AG (vI 0) rfl (AF (AC (?_)))))))))
 refine BQ (?_)
 refine DI (fun mI FI wI=>∃ (k:Nat) (vo0_4:Value) (B:List Nat),k≤l.length∧mI=l.length - k∧(∃ F1,FI=FR F1 [(1,vB mask),(4,vo0_4),(7,l_v),(8,vI (l.length:Int)),(9,vI ((k:Nat):Int)),(25,undef)])∧St w O wI B∧EH Enc.share 70 w.heap.size (B++O) wI vo0_4 ((CX l mask k))∧(∀ b,vo0_4.ownBlock=some b→b∈B)∧BD Enc.share wI (B++O) (l_v) (l)) (l.length - (0)) ?_ ?_
 ·exact ⟨(0),(.slice none 0 0),[],oM,rfl,⟨_,AY _ ⟨rfl,rfl,rfl,rfl,(by rfl),rfl,trivial⟩⟩,s0,(by rw [show (CX l mask (0))=[] from rfl];exact (EH.nil Enc.share 70 _ _ _)),(by intro b hb;simp [Value.ownBlock] at hb),h_l⟩
 ·intro ml0 F wl0 hI
  clear h_l
  obtain ⟨k,vo0_4,Bl0,hr0_0,hm0,⟨Fl0,rfl⟩,sl0,ho0_4,hB0_4,h_l⟩:=hI
  refine AE (?_)
  refine AB kR (AA (DZ .i64 ((k:Nat):Int) (l.length:Int) rfl rfl (AF (AC (?_)))))
  refine AE (?_)
  refine AL (decide (((k:Nat):Int)<(l.length:Int))) rfl rfl (fun hc5553=>?_) (fun hc5553=>?_)
  ·have hp5554:((k:Nat):Int)<(l.length:Int):=by simpa using hc5553
   refine AT (AC (?_))
   refine AE (?_)
   refine BQ (?_)
   refine AE (?_)
   refine AB kR (AA (AG (vI ((k:Nat):Int)) rfl (AA (DG U32_ DP .i64 ((k:Nat):Int) k rfl rfl rfl h_l oM fun a5555 hp5556=>(AA (CR U70_ rfl DP rfl hp5556 fun cs5557 hs5558=>(AA (CY [vI 0,vI 0,vI 0,vI 0,nS] NE rfl sl0 fun b5559 w5560 e5565 s5561 m5562 k5563 bx5564=>(?_)))))))))
   have ne5566:∀ b,vo0_4.ownBlock=some b→b≠b5559:=fun b hb=>by have:=(ho0_4.lt b hb).2;omega
   have hB0_4:∀ b,vo0_4.ownBlock=some b→b∈(b5559 :: Bl0):=fun b hb=>List.mem_cons_of_mem _ (hB0_4 b hb)
   clear e5565
   have ho0_4:=ho0_4.mv m5562 k5563 (by simp)
   have h_l:=h_l.mv m5562
   have hs5558:Enc.share.rd w5560 ((b5559 :: Bl0)++O) cs5557 (l[k]!):=Enc.mv Enc.share (x:=l[k]!) hs5558 m5562
   refine AA (AD (vI ((k:Nat):Int)) rfl (?_))
   obtain ⟨d5572,rfl,hd5573⟩:=hs5558
   have:=hd5573.len_le
   refine BW (BA (vs:=[vI ((l[k]!).epoch),vI ((l[k]!).index),vI ((l[k]!).threshold),vI ((l[k]!).many),d5572]) (.agg #[vI ((l[k]!).epoch),vI ((l[k]!).index),vI ((l[k]!).threshold),vI ((l[k]!).many),d5572]) rfl rfl rfl DP (fun u hu=>by simp only [List.mem_cons,List.not_mem_nil,or_false] at hu;rcases hu with rfl|rfl|rfl|rfl|rfl <;> first|rfl|exact hd5573.oneCell) (by repeat (constructor)) bx5564 oT s5561 fun w5567 s5568 m5569 k5570 bx5571=>(?_))
   have ho0_4:=ho0_4.mv m5569 k5570 (fun b hb=>BG (ne5566 b hb))
   have h_l:=h_l.mv m5569
   have hd5573:=hd5573.mv m5569
   refine AF (AC (?_))
   refine AE (?_)
   refine AB kR (AA (AG (vB mask) rfl (AA (AG (vI ((k:Nat):Int)) rfl (AA (o_shr8 .i64 mask k oM rfl rfl (AA (o_and8 (mask >>> UInt8.ofNat k) (1:UInt8) rfl rfl (AA (o_eql8 ((mask >>> UInt8.ofNat k) &&& (1:UInt8)) (1:UInt8) rfl rfl (AF (AC (?_)))))))))))))
   refine AL (((mask >>> UInt8.ofNat k) &&& (1:UInt8)) == (1:UInt8)) rfl rfl (fun hc5574=>?_) (fun hc5574=>?_)
   ·have hp5575:(mask >>> UInt8.ofNat k) &&& (1:UInt8)=(1:UInt8):=by simpa using hc5574
    refine AB kR (AA (AG (vo0_4) rfl (AA (BM (vs:=[vI ((l[k]!).epoch),vI ((l[k]!).index),vI ((l[k]!).threshold),vI ((l[k]!).many),d5572]) U70_ rfl DP rfl bx5571 rfl (AA (IY (E:=Enc.share) (xs:=[.tmp 20]) U32_ DP NE (by decide) [.agg #[vI ((l[k]!).epoch),vI ((l[k]!).index),vI ((l[k]!).threshold),vI ((l[k]!).many),d5572]] [[vI ((l[k]!).epoch),vI ((l[k]!).index),vI ((l[k]!).threshold),vI ((l[k]!).many),d5572]] [(l[k]!)] rfl rfl rfl (Parts.cons rfl ⟨_,rfl,hd5573⟩ (Parts.nil _ _ _)) oT s5568 fun v5580 w5576 s5577 m5578 k5579 hl5581=>(?_)))))))
    have ho0_4:=ho0_4.mv m5578 k5579 (by simp)
    have h_l:=h_l.mv m5578
    have bx5571:=bx5571.keep k5579 (by simp)
    have:=hl5581.len_le
    refine AA (DJ (E:=Enc.share) (l:=(CX l mask k)) (m:=[(l[k]!)]) U32_ i_70 rfl (by decide) rfl rfl ho0_4 hl5581 (fun _ hb=>.inl hb) hB0_4 (by have:=someM_le l mask k;simp;omega) (by have:=someM_le l mask k;simp [maxLen];omega) s5577 fun v5586 w5582 B5588 hB5589 at5590 sub5591 s5583 m5584 k5585 ho5587=>(?_))
    have ne5592:∀ b,v5586.ownBlock=some b→b≠b5559:=fun b hb=>by rcases at5590 with e1|e1 <;> rw [e1] at hb <;> first|(cases hb;have:=bx5571.lt;omega)|(exact ne5566 b hb)
    have hin_b5559:b5559∈B5588:=sub5591 b5559 (by repeat (constructor))
    have h_l:=h_l.mv m5584
    refine AA (AD (v5586) rfl (AF (CI (AC (?_)))))
    refine AB kR (AA (DD .i64 ((k:Nat):Int) (1:Int) (((k+1:Nat):Int)) rfl rfl (FT oM oM) (AA (AG (vI ((k+1:Nat):Int)) rfl (AF (AC (?_)))))))
    exact ⟨_,oM,(k+1),v5586,B5588,oM,rfl,⟨_,AY _ ⟨rfl,rfl,rfl,rfl,(by rfl),rfl,trivial⟩⟩,s5583,(by rw [show (CX l mask (k+1))=(CX l mask k)++([(l[k]!)]) from by exact someM_hit oM aS];exact ho5587),hB5589,h_l⟩
   ·have hp5593:(mask >>> UInt8.ofNat k) &&& (1:UInt8)≠(1:UInt8):=by simpa using hc5574
    refine AT (CI (AC (?_)))
    refine AB kR (AA (DD .i64 ((k:Nat):Int) (1:Int) (((k+1:Nat):Int)) rfl rfl (FT oM oM) (AA (AG (vI ((k+1:Nat):Int)) rfl (AF (AC (?_)))))))
    exact ⟨_,oM,(k+1),vo0_4,(b5559 :: Bl0),oM,rfl,⟨_,AY _ ⟨rfl,rfl,rfl,rfl,(by rfl),rfl,trivial⟩⟩,s5568,(by rw [show (CX l mask (k+1))=(CX l mask k) from by exact someM_miss (fun hq=>absurd hq.2 aS)];exact ho0_4),hB0_4,h_l⟩
  ·have hp5594:(l.length:Int)≤((k:Nat):Int):=by simpa using hc5553
   obtain rfl:k=l.length:=by omega
   refine DH (CD (CD (DB (AC (?_)))))
   refine AE (?_)
   refine AB kR (AA (AG (vo0_4) rfl (AA (AD (vo0_4) rfl (AF (AC (?_)))))))
   refine AM (AX rfl (CP rfl rfl rfl) (?_))
   exact ⟨_,rfl,sl0.keep,⟨vo0_4,rfl,ho0_4.pub sl0⟩⟩
open Go.Fw
section
variable {c x:Circle} {no:Int} {l m:List Share} {secret more next:List UInt8} {others:List Int} {t:Int}
structure KeptI (secret:List UInt8) (no:Int) (x:Circle) (m:List Share):Prop where
  held:Held secret x m
  n0:0≤no
  n1:no<(x.recs.length:Int)
  st:x.recs[no.toNat]!.state=1
theorem kept_start {coins:List UInt8} (hd:(CM c secret coins).2=0) (h:(CJ c).2.2=true):KeptI secret (CJ c).2.1 (CJ c).1 (CM c secret coins).1:=by
  obtain ⟨_,g,hs⟩:=UD h
  have hh:=VE hd
  exact ⟨⟨g.ok,by rw [g.ep,g.th,g.gu];exact hh.spl⟩,g.n0,g.n1,hs⟩
theorem SR (h:KeptI secret no x m) (he:(AR x m more).2.2=0):KeptI secret no (AR x m more).1 (AR x m more).2.1:=by
  have hr:(AR x m more).1.recs=x.recs:=by rw [(renew_ok he).2.2.2]
  exact ⟨held_renew h.held he,h.n0,by rw [hr];exact h.n1,by rw [hr];exact h.st⟩
theorem PE (h:KeptI secret no x m) (he:(AO x m others t next).2.2=0):KeptI secret no (AO x m others t next).1 (AO x m others t next).2.1:=by
  have hr:(AO x m others t next).1.recs=x.recs:=by rw [(UB he).2.2.2.2];rfl
  exact ⟨held_replace h.held he,h.n0,by rw [hr];exact h.n1,by rw [hr];exact h.st⟩
theorem KeptI.rest (h:KeptI secret no x m) (mask:UInt8) (hx:x.threshold≤((CX m mask m.length).length:Int)):BO x no (CX m mask m.length)=(secret,0):=held_rest h.held mask hx h.n0 h.n1 h.st
theorem KeptI.few (h:KeptI secret no x m) (mask:UInt8) (hx:((CX m mask m.length).length:Int)<x.threshold):BO x no (CX m mask m.length)=([],80):=held_few h.held mask hx h.n0 h.n1 h.st
theorem KeptI.len8 (h:KeptI secret no x m):m.length≤8:=h.held.spl.len8
structure OldC (c:Circle) (l:List Share) (x:Circle):Prop where
  ok:AQ x=0
  ep:x.epoch=c.epoch+1
  bel:CB x l=460
theorem OldC.r1 (h:OldC c l x) (more:List UInt8):(AR x l more).2.2=460:=by rw [PB h.ok (by rw [h.bel];decide),h.bel]
theorem OldC.r2 (h:OldC c l x) (others:List Int) (t:Int) (next:List UInt8):(AO x l others t next).2.2=460:=by rw [LK h.ok (by rw [h.bel];decide),h.bel]
theorem OldC.r3 (h:OldC c l x) (hd:(CJ x).2.2=true):(BO (CJ x).1 (CJ x).2.1 l).2=460:=by
  obtain ⟨_,g,hs⟩:=UD hd
  have hf:EY (CJ x).1=EY x:=by funext s;unfold EY;rw [g.ep,g.th,g.gu]
  have hb:CB (CJ x).1 l=460:=by unfold CB;rw [hf];exact h.bel
  rw [rest_5 g.ok g.n0 g.n1 (by rw [hs];decide) (by rw [hs];decide) (by rw [hb];decide),hb]
end
open Go.Fw Go.RowKit
set_option maxHeartbeats 4000000 in
set_option maxRecDepth 100000 in
theorem UP {O:List Nat} (c_cs:List Value) (c:Circle) (secret_v:Value) (secret:List UInt8) (coins_v:Value) (coins:List UInt8) (more_v:Value) (more:List UInt8) (others_v:Value) (others:List Int) (threshold:Int) (next_v:Value) (next:List UInt8) (pick:UInt8) (w:World) (h_c:Enc.circle.rd w O c_cs c) (h_secret:BD Enc.u8 w O secret_v secret) (h_coins:BD Enc.u8 w O coins_v coins) (h_more:BD Enc.u8 w O more_v more) (h_others:BD Enc.int w O others_v others) (h_next:BD Enc.u8 w O next_v next) (hO:∀ b∈O,b<w.heap.size):CE Try.prog 6 [.agg c_cs.toArray,secret_v,coins_v,more_v,others_v,vI threshold,next_v,vB pick] w (fun v _=>v = .bool (true)):= by
 have h_c:Enc.circle.rd w ([]++O) c_cs c:=h_c
 have lim_secret:=h_secret.len_le
 have h_secret:BD Enc.u8 w ([]++O) secret_v secret:=h_secret
 have lim_coins:=h_coins.len_le
 have h_coins:BD Enc.u8 w ([]++O) coins_v coins:=h_coins
 have lim_more:=h_more.len_le
 have h_more:BD Enc.u8 w ([]++O) more_v more:=h_more
 have lim_others:=h_others.len_le
 have h_others:BD Enc.int w ([]++O) others_v others:=h_others
 have lim_next:=h_next.len_le
 have h_next:BD Enc.u8 w ([]++O) next_v next:=h_next
 have s0:St w O w []:=St.start hO
 refine BP 117 Try.func6 rfl rfl oT (fun F0=>?_)
 refine AE (?_)
 refine AB kR (AA (DO (E:=Enc.circle) (vA c_cs.toArray) (c_cs) c rfl rfl h_c s0 fun a8083 w8084 s8085 m8086 k8087 hp8088=>(?_)))
 have h_secret:=h_secret.mv m8086
 have h_coins:=h_coins.mv m8086
 have h_more:=h_more.mv m8086
 have h_others:=h_others.mv m8086
 have h_next:=h_next.mv m8086
 refine AA (AD (vO false) rfl (AF (AC (?_))))
 refine AE (?_)
 refine AE (?_)
 refine AB kR (AA (BC (vs:=[]) enter_20 (c_sane46 (O:=[]++O) w8084 s8085.lt) rfl s8085 fun v8089 w8090 s8091 m8092 k8093 r8094=>(?_)))
 obtain rfl:=r8094
 have h_secret:=h_secret.mv m8092
 have h_coins:=h_coins.mv m8092
 have h_more:=h_more.mv m8092
 have h_others:=h_others.mv m8092
 have h_next:=h_next.mv m8092
 have hp8088:=hp8088.mv m8092
 refine AA (GV true rfl (AF (AC (?_))))
 refine AL false rfl rfl (fun h=>by cases h) (fun _=>?_)
 refine AT (AC (?_))
 refine AE (?_)
 refine AE (?_)
 refine AB kR (AA (CR U28_ rfl BK rfl hp8088 fun cs8095 hs8096=>(AA (BC (vs:=[vA cs8095.toArray,nS]) enter_23 (c_few46 (O:=[]++O) cs8095 c (.slice none 0 0) [] w8090 hs8096 (BD.nil _ _ _) s8091.lt) rfl s8091 fun v8097 w8098 s8099 m8100 k8101 r8102=>(?_)))))
 obtain rfl:=r8102
 have h_secret:=h_secret.mv m8100
 have h_coins:=h_coins.mv m8100
 have h_more:=h_more.mv m8100
 have h_others:=h_others.mv m8100
 have h_next:=h_next.mv m8100
 have hp8088:=hp8088.mv m8100
 refine AA (GV (MQ c && OW ([])) rfl (AA (AG (vO (!(MQ c && OW ([])))) rfl (?_))))
 cases hb8103:(!(MQ c && OW ([])))
 ·have hp8104:(MQ c && OW ([]))=true:=by simpa using hb8103
  refine BI rfl (AG (secret_v) rfl (BI rfl (CG U23_ rfl h_secret (BI rfl (FU .i64 (secret.length:Int) (20:Int) rfl rfl (AA (CA (vO (decide ((20:Int)<(secret.length:Int)))) rfl rfl (AA (AG (vO (decide ((20:Int)<(secret.length:Int)))) rfl (?_))))))))))
  cases hb8105:(decide ((20:Int)<(secret.length:Int)))
  ·have hp8106:(secret.length:Int)≤(20:Int):=by simpa using hb8105
   refine BI rfl (AG (coins_v) rfl (BI rfl (CG U23_ rfl h_coins (BI rfl (FU .i64 (coins.length:Int) (200:Int) rfl rfl (AA (CA (vO (decide ((200:Int)<(coins.length:Int)))) rfl rfl (AA (AG (vO (decide ((200:Int)<(coins.length:Int)))) rfl (?_))))))))))
   cases hb8107:(decide ((200:Int)<(coins.length:Int)))
   ·have hp8108:(coins.length:Int)≤(200:Int):=by simpa using hb8107
    refine BI rfl (AG (others_v) rfl (BI rfl (CG U22_ rfl h_others (BI rfl (FU .i64 (others.length:Int) (20:Int) rfl rfl (AA (CA (vO (decide ((20:Int)<(others.length:Int)))) rfl rfl (AF (AC (?_))))))))))
    refine AL (decide ((20:Int)<(others.length:Int))) rfl rfl (fun hc8109=>?_) (fun hc8109=>?_)
    ·have hp8110:(20:Int)<(others.length:Int):=by simpa using hc8109
     refine AE (?_)
     refine AB kR (AA (AD (vO true) rfl (AF (AC (?_)))))
     refine AM (AP (AX rfl (CP rfl rfl rfl) (?_)))
     exact ⟨_,rfl,s8099.keep,rfl⟩
    ·have hp8111:(others.length:Int)≤(20:Int):=by simpa using hc8109
     refine AT (AC (?_))
     refine AE (?_)
     refine AB kR (AA (CR U28_ rfl BK rfl hp8088 fun cs8112 hs8113=>(AA (AG (secret_v) rfl (AA (AG (coins_v) rfl (AA (BC (vs:=[vA cs8112.toArray,secret_v,coins_v]) MX (TW (O:=[]++O) cs8112 c secret_v secret coins_v coins w8098 hs8113 h_secret h_coins s8099.lt) rfl s8099 fun v8114 w8115 s8116 m8117 k8118 r8119=>(?_)))))))))
     obtain ⟨x8120,rfl,hl8121⟩:=r8119
     have:=hl8121.len_le
     have h_secret:=h_secret.mv m8117
     have h_more:=h_more.mv m8117
     have h_others:=h_others.mv m8117
     have h_next:=h_next.mv m8117
     have hp8088:=hp8088.mv m8117
     refine AA (AG (vT #[x8120,vI ((CM c secret coins).2)]) rfl (AA (AK (x8120) rfl rfl (AA (AK (vI ((CM c secret coins).2)) rfl rfl (AA (AD (x8120) rfl (AA (AD (vI ((CM c secret coins).2)) rfl (AF (AC (?_))))))))))))
     refine AE (?_)
     refine AE (?_)
     refine AB kR (AA (AG (vI ((CM c secret coins).2)) rfl (AA (CV .i64 ((CM c secret coins).2) (0:Int) rfl rfl (AF (AC (?_)))))))
     refine AL (((CM c secret coins).2) != (0:Int)) rfl rfl (fun hc8122=>?_) (fun hc8122=>?_)
     ·have hp8123:(CM c secret coins).2≠(0:Int):=by simpa using hc8122
      refine AE (?_)
      refine AB kR (AA (AD (vO true) rfl (AF (AC (?_)))))
      refine AM (AP (AX rfl (CP rfl rfl rfl) (?_)))
      exact ⟨_,rfl,s8116.keep,rfl⟩
     ·have hp8124:(CM c secret coins).2=(0:Int):=by simpa using hc8122
      have hdl:(CM c secret coins).2=0:=hp8124
      refine AT (AC (?_))
      refine AE (?_)
      refine AB kR (AA (CR U28_ rfl BK rfl hp8088 fun cs8125 hs8126=>(AA (BC (vs:=[vA cs8125.toArray]) enter_27 (c_done (O:=[]++O) cs8125 c w8115 hs8126 s8116.lt) rfl s8116 fun v8127 w8128 s8129 m8130 k8131 r8132=>(?_)))))
      obtain ⟨cs8133,rfl,hs8134⟩:=r8132
      have h_secret:=h_secret.mv m8130
      have h_more:=h_more.mv m8130
      have h_others:=h_others.mv m8130
      have h_next:=h_next.mv m8130
      have hp8088:=hp8088.mv m8130
      have hl8121:=hl8121.mv m8130
      refine AA (AG (vT #[vA cs8133.toArray,vI ((CJ c).2.1),vO ((CJ c).2.2)]) rfl (AA (AK (vA cs8133.toArray) rfl rfl (AA (AK (vI ((CJ c).2.1)) rfl rfl (AA (AK (vO ((CJ c).2.2)) rfl rfl (AA (CY [vI 0,vI 0,vI 0,nS,nS] KM rfl s8129 fun b8135 w8136 e8141 s8137 m8138 k8139 bx8140=>(?_))))))))))
      clear e8141
      have h_secret:=h_secret.mv m8138
      have h_more:=h_more.mv m8138
      have h_others:=h_others.mv m8138
      have h_next:=h_next.mv m8138
      have hp8088:=hp8088.mv m8138
      have hl8121:=hl8121.mv m8138
      have hs8134:Enc.circle.rd w8136 ((b8135 :: [])++O) cs8133 ((CJ c).1):=Enc.mv Enc.circle (x:=(CJ c).1) hs8134 m8138
      obtain ⟨d8147,d8149,rfl,hd8148,hd8150⟩:=hs8134
      have:=hd8148.len_le
      have:=hd8150.len_le
      refine BW (BA (vs:=[vI (((CJ c).1).epoch),vI (((CJ c).1).threshold),vI (((CJ c).1).wait),d8147,d8149]) (.agg #[vI (((CJ c).1).epoch),vI (((CJ c).1).threshold),vI (((CJ c).1).wait),d8147,d8149]) rfl rfl rfl BK (fun u hu=>by simp only [List.mem_cons,List.not_mem_nil,or_false] at hu;rcases hu with rfl|rfl|rfl|rfl|rfl <;> first|rfl|exact hd8148.oneCell|exact hd8150.oneCell) (by repeat (constructor)) bx8140 oT s8137 fun w8142 s8143 m8144 k8145 bx8146=>(?_))
      have h_secret:=h_secret.mv m8144
      have h_more:=h_more.mv m8144
      have h_others:=h_others.mv m8144
      have h_next:=h_next.mv m8144
      have hp8088:=hp8088.mv m8144
      have hl8121:=hl8121.mv m8144
      have hd8148:=hd8148.mv m8144
      have hd8150:=hd8150.mv m8144
      refine AA (AD (vI ((CJ c).2.1)) rfl (AA (AD (vO ((CJ c).2.2)) rfl (AF (AC (?_))))))
      refine AE (?_)
      refine AE (?_)
      refine AB kR (AA (AG (vO ((CJ c).2.2)) rfl (AA (GV ((CJ c).2.2) rfl (AF (AC (?_)))))))
      refine AL (!((CJ c).2.2)) rfl rfl (fun hc8151=>?_) (fun hc8151=>?_)
      ·have hp8152:((CJ c).2.2)=false:=by simpa using hc8151
       refine AE (?_)
       refine AB kR (AA (AD (vO true) rfl (AF (AC (?_)))))
       refine AM (AP (AX rfl (CP rfl rfl rfl) (?_)))
       exact ⟨_,rfl,s8143.keep,rfl⟩
      ·have hp8153:((CJ c).2.2)=true:=by simpa using hc8151
       have hdn:(CJ c).2.2=true:=by exact hp8153
       refine AT (AC (?_))
       refine AE (?_)
       refine AE (?_)
       refine AB kR (AA (AG (vI 0) rfl (AF (AC (?_)))))
       refine BQ (?_)
       refine DI (fun mI FI wI=>∃ (k:Nat) (x:Circle) (m:List Share) (vr0_17:Value) (vr0_b8135_3:Value) (vr0_b8135_4:Value) (B:List Nat),k≤3∧KeptI secret (CJ c).2.1 x m∧mI=3 - k∧(∃ F1,FI=FR F1 [(1,secret_v),(3,more_v),(4,others_v),(5,vI threshold),(6,next_v),(7,vB pick),(8,vP (some a8083)),(17,vr0_17),(19,vP (some ⟨b8135,0,none⟩)),(20,vI ((CJ c).2.1)),(63,vI ((k:Nat):Int)),(117,undef)])∧St w O wI B∧BD Enc.share wI (B++O) vr0_17 (m)∧BD Enc.int wI (B++O) vr0_b8135_3 (x.guardians)∧BD Enc.recovery wI (B++O) vr0_b8135_4 (x.recs)∧BD Enc.u8 wI (B++O) (secret_v) (secret)∧BD Enc.u8 wI (B++O) (more_v) (more)∧BD Enc.int wI (B++O) (others_v) (others)∧BD Enc.u8 wI (B++O) (next_v) (next)∧PT Enc.circle wI (B++O) (.pointer (some a8083)) (c)∧GO wI b8135 28 [vI x.epoch,vI x.threshold,vI x.wait,vr0_b8135_3,vr0_b8135_4]∧b8135∈B) (3 - (0)) ?_ ?_
       ·exact ⟨(0),((CJ c).1),((CM c secret coins).1),x8120,d8147,d8149,(b8135 :: []),oM,(kept_start hdl hdn),rfl,⟨_,AY _ ⟨rfl,rfl,rfl,rfl,rfl,rfl,rfl,rfl,rfl,rfl,(by rfl),rfl,trivial⟩⟩,s8143,(by rw [show ((CM c secret coins).1)=(CM c secret coins).1 from rfl];exact hl8121),hd8148,hd8150,h_secret,h_more,h_others,h_next,hp8088,bx8146,(by (repeat (exact List.mem_cons_self)))⟩
       ·intro ml0 F wl0 hI
        clear h_secret h_more h_others h_next hp8088
        obtain ⟨k,x,m,vr0_17,vr0_b8135_3,vr0_b8135_4,Bl0,hr0_0,hr0_1,hm0,⟨Fl0,rfl⟩,sl0,hrd0_17,hrd0_b8135_3,hrd0_b8135_4,h_secret,h_more,h_others,h_next,hp8088,hbs_0_b8135,hin_b8135⟩:=hI
        have:=hrd0_17.len_le
        have:=hrd0_b8135_3.len_le
        have:=hrd0_b8135_4.len_le
        refine AE (?_)
        refine AB kR (AA (DZ .i64 ((k:Nat):Int) (3:Int) rfl rfl (AF (AC (?_)))))
        refine AE (?_)
        refine AL (decide (((k:Nat):Int)<(3:Int))) rfl rfl (fun hc8154=>?_) (fun hc8154=>?_)
        ·have hp8155:((k:Nat):Int)<(3:Int):=by simpa using hc8154
         refine AT (AC (?_))
         refine AE (?_)
         refine BQ (?_)
         refine AE (?_)
         refine AB kR (AA (AG (vr0_17) rfl (AA (AG (vB pick) rfl (AA (BC (vs:=[vr0_17,vB pick]) enter_25 (c_subset (O:=Bl0++O) vr0_17 m pick wl0 hrd0_17 hr0_1.len8 sl0.lt) rfl sl0 fun v8156 w8157 s8158 m8159 k8160 r8161=>(?_)))))))
         obtain ⟨_,rfl,hl8162⟩:=r8161
         have:=hl8162.len_le
         have h_secret:=h_secret.mv m8159
         have h_more:=h_more.mv m8159
         have h_others:=h_others.mv m8159
         have h_next:=h_next.mv m8159
         have hp8088:=hp8088.mv m8159
         have hrd0_17:=hrd0_17.mv m8159
         have hrd0_b8135_3:=hrd0_b8135_3.mv m8159
         have hrd0_b8135_4:=hrd0_b8135_4.mv m8159
         have hbs_0_b8135:=hbs_0_b8135.keep k8160 (by simp)
         refine AA (AD (v8156) rfl (AF (AC (?_))))
         refine AE (?_)
         refine AB kR (AA (BM (vs:=[vI x.epoch,vI x.threshold,vI x.wait,vr0_b8135_3,vr0_b8135_4]) U28_ rfl BK rfl hbs_0_b8135 rfl (AA (AG (vI ((CJ c).2.1)) rfl (AA (AG (v8156) rfl (AA (BC (vs:=[vA #[vI x.epoch,vI x.threshold,vI x.wait,vr0_b8135_3,vr0_b8135_4],vI ((CJ c).2.1),v8156]) NL (SY (O:=Bl0++O) [vI x.epoch,vI x.threshold,vI x.wait,vr0_b8135_3,vr0_b8135_4] x ((CJ c).2.1) v8156 (CX m pick m.length) w8157 ⟨_,_,rfl,hrd0_b8135_3,hrd0_b8135_4⟩ hl8162 s8158.lt) rfl s8158 fun v8163 w8164 s8165 m8166 k8167 r8168=>(?_)))))))))
         obtain ⟨x8169,rfl,hl8170⟩:=r8168
         have:=hl8170.len_le
         have h_secret:=h_secret.mv m8166
         have h_more:=h_more.mv m8166
         have h_others:=h_others.mv m8166
         have h_next:=h_next.mv m8166
         have hp8088:=hp8088.mv m8166
         have hrd0_17:=hrd0_17.mv m8166
         have hl8162:=hl8162.mv m8166
         have hrd0_b8135_3:=hrd0_b8135_3.mv m8166
         have hrd0_b8135_4:=hrd0_b8135_4.mv m8166
         have hbs_0_b8135:=hbs_0_b8135.keep k8167 (by simp)
         refine AA (AG (vT #[x8169,vI ((BO x ((CJ c).2.1) (CX m pick m.length)).2)]) rfl (AA (AK (x8169) rfl rfl (AA (AK (vI ((BO x ((CJ c).2.1) (CX m pick m.length)).2)) rfl rfl (AA (AD (x8169) rfl (AA (AD (vI ((BO x ((CJ c).2.1) (CX m pick m.length)).2)) rfl (AF (AC (?_))))))))))))
         refine AE (?_)
         refine AE (?_)
         refine AB kR (AA (AG (v8156) rfl (AA (CG U32_ rfl hl8162 (AA (BB 1 MC rfl (AA (BF U3_ rfl (vI x.threshold) rfl hbs_0_b8135 rfl (AA (JH .i64 ((CX m pick m.length).length:Int) x.threshold rfl rfl (AF (AC (?_)))))))))))))
         refine AL (decide (x.threshold≤((CX m pick m.length).length:Int))) rfl rfl (fun hc8171=>?_) (fun hc8171=>?_)
         ·have hp8172:x.threshold≤((CX m pick m.length).length:Int):=by simpa using hc8171
          refine AE (?_)
          refine AB kR (AA (AG (vI ((BO x ((CJ c).2.1) (CX m pick m.length)).2)) rfl (AA (CV .i64 ((BO x ((CJ c).2.1) (CX m pick m.length)).2) (0:Int) rfl rfl (AA (AG (vO (((BO x ((CJ c).2.1) (CX m pick m.length)).2) != (0:Int))) rfl (?_)))))))
          have hb8173:(((BO x ((CJ c).2.1) (CX m pick m.length)).2) != (0:Int))=false:=(by rw [hr0_1.rest pick oM];rfl)
          rw [hb8173]
          refine BI rfl (AG (x8169) rfl (BI rfl (SG U23_ U5_ U9_ rfl hl8170 (BI rfl (AG (secret_v) rfl (BI rfl (SG U23_ U5_ U9_ rfl h_secret (BI rfl (o_neqS ((BO x ((CJ c).2.1) (CX m pick m.length)).1) secret rfl rfl (AA (CA (vO (((BO x ((CJ c).2.1) (CX m pick m.length)).1) != secret)) rfl rfl (AF (AC (?_))))))))))))))
          have hb8174:(((BO x ((CJ c).2.1) (CX m pick m.length)).1) != secret)=false:=(by rw [hr0_1.rest pick oM];simp)
          rw [hb8174]
          refine AL false rfl rfl (fun h=>by cases h) (fun _=>?_)
          refine AT (AC (?_))
          refine AE (?_)
          refine AB kR (AA (AD (vI 0) rfl (AF (AC (?_)))))
          refine QJ (fun FI wI=>∃ (x2:Circle) (m2:List Share) (e:Int) (vrc114_17:Value) (vrc114_b8135_3:Value) (vrc114_b8135_4:Value) (B:List Nat),(e=0→KeptI secret (CJ c).2.1 x2 m2)∧True∧(∃ F1,FI=FR F1 [(1,secret_v),(3,more_v),(4,others_v),(5,vI threshold),(6,next_v),(7,vB pick),(8,vP (some a8083)),(17,vrc114_17),(19,vP (some ⟨b8135,0,none⟩)),(20,vI ((CJ c).2.1)),(25,vI e),(63,vI ((k:Nat):Int)),(117,undef)])∧St w O wI B∧BD Enc.share wI (B++O) vrc114_17 (m2)∧BD Enc.int wI (B++O) vrc114_b8135_3 (x2.guardians)∧BD Enc.recovery wI (B++O) vrc114_b8135_4 (x2.recs)∧BD Enc.u8 wI (B++O) (secret_v) (secret)∧BD Enc.u8 wI (B++O) (more_v) (more)∧BD Enc.int wI (B++O) (others_v) (others)∧BD Enc.u8 wI (B++O) (next_v) (next)∧PT Enc.circle wI (B++O) (.pointer (some a8083)) (c)∧GO wI b8135 28 [vI x2.epoch,vI x2.threshold,vI x2.wait,vrc114_b8135_3,vrc114_b8135_4]∧b8135∈B) ?_ ?_
          ·refine AE (?_)
           refine AB kR (AA (BB 0 IA rfl (AA (BF U3_ rfl (vI x.epoch) rfl hbs_0_b8135 rfl (AA (BJ 0 IA (c.epoch) rfl hp8088 (fun _ _ _ h=>GK h) fun a8175 hp8176=>(AA (CC U3_ rfl rfl hp8176 (AA (EN .i64 x.epoch c.epoch rfl rfl (AF (AC (?_)))))))))))))
           refine AL (x.epoch == c.epoch) rfl rfl (fun hc8177=>?_) (fun hc8177=>?_)
           ·have hp8178:x.epoch=c.epoch:=by simpa using hc8177
            refine AB kR (AA (BM (vs:=[vI x.epoch,vI x.threshold,vI x.wait,vr0_b8135_3,vr0_b8135_4]) U28_ rfl BK rfl hbs_0_b8135 rfl (AA (AG (vr0_17) rfl (AA (AG (more_v) rfl (AA (BC (vs:=[vA #[vI x.epoch,vI x.threshold,vI x.wait,vr0_b8135_3,vr0_b8135_4],vr0_17,more_v]) PX (RW (O:=Bl0++O) [vI x.epoch,vI x.threshold,vI x.wait,vr0_b8135_3,vr0_b8135_4] x vr0_17 m more_v more w8164 ⟨_,_,rfl,hrd0_b8135_3,hrd0_b8135_4⟩ hrd0_17 h_more s8165.lt) rfl s8165 fun v8179 w8180 s8181 m8182 k8183 r8184=>(?_)))))))))
            obtain ⟨cs8185,x8187,rfl,hs8186,hl8188⟩:=r8184
            have:=hl8188.len_le
            have h_secret:=h_secret.mv m8182
            have h_more:=h_more.mv m8182
            have h_others:=h_others.mv m8182
            have h_next:=h_next.mv m8182
            have hp8088:=hp8088.mv m8182
            have hbs_0_b8135:=hbs_0_b8135.keep k8183 (by simp)
            refine AA (AG (vT #[vA cs8185.toArray,x8187,vI ((AR x m more).2.2)]) rfl (AA (AK (vA cs8185.toArray) rfl rfl (AA (AK (x8187) rfl rfl (AA (AK (vI ((AR x m more).2.2)) rfl rfl (?_))))))))
            obtain ⟨d8194,d8196,rfl,hd8195,hd8197⟩:=hs8186
            have:=hd8195.len_le
            have:=hd8197.len_le
            refine BW (BA (vs:=[vI (((AR x m more).1).epoch),vI (((AR x m more).1).threshold),vI (((AR x m more).1).wait),d8194,d8196]) (.agg #[vI (((AR x m more).1).epoch),vI (((AR x m more).1).threshold),vI (((AR x m more).1).wait),d8194,d8196]) rfl rfl rfl BK (fun u hu=>by simp only [List.mem_cons,List.not_mem_nil,or_false] at hu;rcases hu with rfl|rfl|rfl|rfl|rfl <;> first|rfl|exact hd8195.oneCell|exact hd8197.oneCell) (by repeat (assumption)) hbs_0_b8135 oT s8181 fun w8189 s8190 m8191 k8192 bx8193=>(?_))
            have h_secret:=h_secret.mv m8191
            have h_more:=h_more.mv m8191
            have h_others:=h_others.mv m8191
            have h_next:=h_next.mv m8191
            have hp8088:=hp8088.mv m8191
            have hl8188:=hl8188.mv m8191
            have hd8195:=hd8195.mv m8191
            have hd8197:=hd8197.mv m8191
            refine AA (AD (x8187) rfl (AA (AD (vI ((AR x m more).2.2)) rfl (AF (AC (?_))))))
            exact ⟨((AR x m more).1),((AR x m more).2.1),((AR x m more).2.2),x8187,d8194,d8196,Bl0,(by exact SR hr0_1),trivial,⟨_,AY _ ⟨rfl,rfl,rfl,rfl,rfl,rfl,rfl,rfl,rfl,rfl,rfl,rfl,rfl,trivial⟩⟩,s8190,(by rw [show ((AR x m more).2.1)=(AR x m more).2.1 from rfl];exact hl8188),hd8195,hd8197,h_secret,h_more,h_others,h_next,hp8088,bx8193,aS⟩
           ·have hp8198:x.epoch≠c.epoch:=by simpa using hc8177
            refine AB kR (AA (BM (vs:=[vI x.epoch,vI x.threshold,vI x.wait,vr0_b8135_3,vr0_b8135_4]) U28_ rfl BK rfl hbs_0_b8135 rfl (AA (AG (vr0_17) rfl (AA (AG (others_v) rfl (AA (AG (vI threshold) rfl (AA (AG (next_v) rfl (AA (BC (vs:=[vA #[vI x.epoch,vI x.threshold,vI x.wait,vr0_b8135_3,vr0_b8135_4],vr0_17,others_v,vI threshold,next_v]) TI (QP (O:=Bl0++O) [vI x.epoch,vI x.threshold,vI x.wait,vr0_b8135_3,vr0_b8135_4] x vr0_17 m others_v others threshold next_v next w8164 ⟨_,_,rfl,hrd0_b8135_3,hrd0_b8135_4⟩ hrd0_17 h_others h_next oM s8165.lt) rfl s8165 fun v8199 w8200 s8201 m8202 k8203 r8204=>(?_)))))))))))))
            obtain ⟨cs8205,x8207,rfl,hs8206,hl8208⟩:=r8204
            have:=hl8208.len_le
            have h_secret:=h_secret.mv m8202
            have h_more:=h_more.mv m8202
            have h_others:=h_others.mv m8202
            have h_next:=h_next.mv m8202
            have hp8088:=hp8088.mv m8202
            have hbs_0_b8135:=hbs_0_b8135.keep k8203 (by simp)
            refine AA (AG (vT #[vA cs8205.toArray,x8207,vI ((AO x m others threshold next).2.2)]) rfl (AA (AK (vA cs8205.toArray) rfl rfl (AA (AK (x8207) rfl rfl (AA (AK (vI ((AO x m others threshold next).2.2)) rfl rfl (?_))))))))
            obtain ⟨d8214,d8216,rfl,hd8215,hd8217⟩:=hs8206
            have:=hd8215.len_le
            have:=hd8217.len_le
            refine BW (BA (vs:=[vI (((AO x m others threshold next).1).epoch),vI (((AO x m others threshold next).1).threshold),vI (((AO x m others threshold next).1).wait),d8214,d8216]) (.agg #[vI (((AO x m others threshold next).1).epoch),vI (((AO x m others threshold next).1).threshold),vI (((AO x m others threshold next).1).wait),d8214,d8216]) rfl rfl rfl BK (fun u hu=>by simp only [List.mem_cons,List.not_mem_nil,or_false] at hu;rcases hu with rfl|rfl|rfl|rfl|rfl <;> first|rfl|exact hd8215.oneCell|exact hd8217.oneCell) (by repeat (assumption)) hbs_0_b8135 oT s8201 fun w8209 s8210 m8211 k8212 bx8213=>(?_))
            have h_secret:=h_secret.mv m8211
            have h_more:=h_more.mv m8211
            have h_others:=h_others.mv m8211
            have h_next:=h_next.mv m8211
            have hp8088:=hp8088.mv m8211
            have hl8208:=hl8208.mv m8211
            have hd8215:=hd8215.mv m8211
            have hd8217:=hd8217.mv m8211
            refine AA (AD (x8207) rfl (AA (AD (vI ((AO x m others threshold next).2.2)) rfl (AF (AC (?_))))))
            exact ⟨((AO x m others threshold next).1),((AO x m others threshold next).2.1),((AO x m others threshold next).2.2),x8207,d8214,d8216,Bl0,(by exact PE hr0_1),trivial,⟨_,AY _ ⟨rfl,rfl,rfl,rfl,rfl,rfl,rfl,rfl,rfl,rfl,rfl,rfl,rfl,trivial⟩⟩,s8210,(by rw [show ((AO x m others threshold next).2.1)=(AO x m others threshold next).2.1 from rfl];exact hl8208),hd8215,hd8217,h_secret,h_more,h_others,h_next,hp8088,bx8213,aS⟩
          ·intro F wlc114 hI
           clear h_secret h_more h_others h_next hp8088
           obtain ⟨x2,m2,e,vrc114_17,vrc114_b8135_3,vrc114_b8135_4,Blc114,hrc114_0,hmc114,⟨Flc114,rfl⟩,slc114,hrdc114_17,hrdc114_b8135_3,hrdc114_b8135_4,h_secret,h_more,h_others,h_next,hp8088,hbs_c114_b8135,hin_b8135⟩:=hI
           have:=hrdc114_17.len_le
           have:=hrdc114_b8135_3.len_le
           have:=hrdc114_b8135_4.len_le
           refine AE (?_)
           refine AB kR (AA (AG (vI e) rfl (AA (CV .i64 e (0:Int) rfl rfl (AF (AC (?_)))))))
           refine AL (e != (0:Int)) rfl rfl (fun hc8218=>?_) (fun hc8218=>?_)
           ·have hp8219:e≠(0:Int):=by simpa using hc8218
            refine AE (?_)
            refine AB kR (AA (AD (vO true) rfl (AF (AC (?_)))))
            refine AM (BY (AP (AP (BY (AP (AX rfl (CP rfl rfl rfl) (?_)))))))
            exact ⟨_,rfl,slc114.keep,rfl⟩
           ·have hp8220:e=(0:Int):=by simpa using hc8218
            refine AT (CI (AC (?_)))
            refine AB kR (AA (DD .i64 ((k:Nat):Int) (1:Int) (((k+1:Nat):Int)) rfl rfl (FT oM oM) (AA (AG (vI ((k+1:Nat):Int)) rfl (AF (AC (?_)))))))
            exact ⟨_,oM,(k+1),(x2),(m2),vrc114_17,vrc114_b8135_3,vrc114_b8135_4,Blc114,oM,(hrc114_0 aS),rfl,⟨_,AY _ ⟨rfl,rfl,rfl,rfl,rfl,rfl,rfl,rfl,rfl,rfl,(by rfl),rfl,trivial⟩⟩,slc114,(by rw [show (m2)=m2 from rfl];exact hrdc114_17),(by rw [show (x2).guardians=x2.guardians from rfl];exact hrdc114_b8135_3),(by rw [show (x2).recs=x2.recs from rfl];exact hrdc114_b8135_4),h_secret,h_more,h_others,h_next,hp8088,(by rw [show ([vI ((x2).epoch),vI ((x2).threshold),vI ((x2).wait),vrc114_b8135_3,vrc114_b8135_4]:List Value)=[vI x2.epoch,vI x2.threshold,vI x2.wait,vrc114_b8135_3,vrc114_b8135_4] from rfl];exact hbs_c114_b8135),aS⟩
         ·have hp8221:((CX m pick m.length).length:Int)<x.threshold:=by simpa using hc8171
          refine AE (?_)
          refine AB kR (AA (AG (vI ((BO x ((CJ c).2.1) (CX m pick m.length)).2)) rfl (AA (CV .i64 ((BO x ((CJ c).2.1) (CX m pick m.length)).2) (80:Int) rfl rfl (AF (AC (?_)))))))
          have hb8222:(((BO x ((CJ c).2.1) (CX m pick m.length)).2) != (80:Int))=false:=(by rw [hr0_1.few pick oM];rfl)
          rw [hb8222]
          refine AL false rfl rfl (fun h=>by cases h) (fun _=>?_)
          refine AT (AC (?_))
          refine AE (?_)
          refine AB kR (AA (AD (vI 0) rfl (AF (AC (?_)))))
          refine QJ (fun FI wI=>∃ (x2:Circle) (m2:List Share) (e:Int) (vrc114_17:Value) (vrc114_b8135_3:Value) (vrc114_b8135_4:Value) (B:List Nat),(e=0→KeptI secret (CJ c).2.1 x2 m2)∧True∧(∃ F1,FI=FR F1 [(1,secret_v),(3,more_v),(4,others_v),(5,vI threshold),(6,next_v),(7,vB pick),(8,vP (some a8083)),(17,vrc114_17),(19,vP (some ⟨b8135,0,none⟩)),(20,vI ((CJ c).2.1)),(25,vI e),(63,vI ((k:Nat):Int)),(117,undef)])∧St w O wI B∧BD Enc.share wI (B++O) vrc114_17 (m2)∧BD Enc.int wI (B++O) vrc114_b8135_3 (x2.guardians)∧BD Enc.recovery wI (B++O) vrc114_b8135_4 (x2.recs)∧BD Enc.u8 wI (B++O) (secret_v) (secret)∧BD Enc.u8 wI (B++O) (more_v) (more)∧BD Enc.int wI (B++O) (others_v) (others)∧BD Enc.u8 wI (B++O) (next_v) (next)∧PT Enc.circle wI (B++O) (.pointer (some a8083)) (c)∧GO wI b8135 28 [vI x2.epoch,vI x2.threshold,vI x2.wait,vrc114_b8135_3,vrc114_b8135_4]∧b8135∈B) ?_ ?_
          ·refine AE (?_)
           refine AB kR (AA (BB 0 IA rfl (AA (BF U3_ rfl (vI x.epoch) rfl hbs_0_b8135 rfl (AA (BJ 0 IA (c.epoch) rfl hp8088 (fun _ _ _ h=>GK h) fun a8223 hp8224=>(AA (CC U3_ rfl rfl hp8224 (AA (EN .i64 x.epoch c.epoch rfl rfl (AF (AC (?_)))))))))))))
           refine AL (x.epoch == c.epoch) rfl rfl (fun hc8225=>?_) (fun hc8225=>?_)
           ·have hp8226:x.epoch=c.epoch:=by simpa using hc8225
            refine AB kR (AA (BM (vs:=[vI x.epoch,vI x.threshold,vI x.wait,vr0_b8135_3,vr0_b8135_4]) U28_ rfl BK rfl hbs_0_b8135 rfl (AA (AG (vr0_17) rfl (AA (AG (more_v) rfl (AA (BC (vs:=[vA #[vI x.epoch,vI x.threshold,vI x.wait,vr0_b8135_3,vr0_b8135_4],vr0_17,more_v]) PX (RW (O:=Bl0++O) [vI x.epoch,vI x.threshold,vI x.wait,vr0_b8135_3,vr0_b8135_4] x vr0_17 m more_v more w8164 ⟨_,_,rfl,hrd0_b8135_3,hrd0_b8135_4⟩ hrd0_17 h_more s8165.lt) rfl s8165 fun v8227 w8228 s8229 m8230 k8231 r8232=>(?_)))))))))
            obtain ⟨cs8233,x8235,rfl,hs8234,hl8236⟩:=r8232
            have:=hl8236.len_le
            have h_secret:=h_secret.mv m8230
            have h_more:=h_more.mv m8230
            have h_others:=h_others.mv m8230
            have h_next:=h_next.mv m8230
            have hp8088:=hp8088.mv m8230
            have hbs_0_b8135:=hbs_0_b8135.keep k8231 (by simp)
            refine AA (AG (vT #[vA cs8233.toArray,x8235,vI ((AR x m more).2.2)]) rfl (AA (AK (vA cs8233.toArray) rfl rfl (AA (AK (x8235) rfl rfl (AA (AK (vI ((AR x m more).2.2)) rfl rfl (?_))))))))
            obtain ⟨d8242,d8244,rfl,hd8243,hd8245⟩:=hs8234
            have:=hd8243.len_le
            have:=hd8245.len_le
            refine BW (BA (vs:=[vI (((AR x m more).1).epoch),vI (((AR x m more).1).threshold),vI (((AR x m more).1).wait),d8242,d8244]) (.agg #[vI (((AR x m more).1).epoch),vI (((AR x m more).1).threshold),vI (((AR x m more).1).wait),d8242,d8244]) rfl rfl rfl BK (fun u hu=>by simp only [List.mem_cons,List.not_mem_nil,or_false] at hu;rcases hu with rfl|rfl|rfl|rfl|rfl <;> first|rfl|exact hd8243.oneCell|exact hd8245.oneCell) (by repeat (assumption)) hbs_0_b8135 oT s8229 fun w8237 s8238 m8239 k8240 bx8241=>(?_))
            have h_secret:=h_secret.mv m8239
            have h_more:=h_more.mv m8239
            have h_others:=h_others.mv m8239
            have h_next:=h_next.mv m8239
            have hp8088:=hp8088.mv m8239
            have hl8236:=hl8236.mv m8239
            have hd8243:=hd8243.mv m8239
            have hd8245:=hd8245.mv m8239
            refine AA (AD (x8235) rfl (AA (AD (vI ((AR x m more).2.2)) rfl (AF (AC (?_))))))
            exact ⟨((AR x m more).1),((AR x m more).2.1),((AR x m more).2.2),x8235,d8242,d8244,Bl0,(by exact SR hr0_1),trivial,⟨_,AY _ ⟨rfl,rfl,rfl,rfl,rfl,rfl,rfl,rfl,rfl,rfl,rfl,rfl,rfl,trivial⟩⟩,s8238,(by rw [show ((AR x m more).2.1)=(AR x m more).2.1 from rfl];exact hl8236),hd8243,hd8245,h_secret,h_more,h_others,h_next,hp8088,bx8241,aS⟩
           ·have hp8246:x.epoch≠c.epoch:=by simpa using hc8225
            refine AB kR (AA (BM (vs:=[vI x.epoch,vI x.threshold,vI x.wait,vr0_b8135_3,vr0_b8135_4]) U28_ rfl BK rfl hbs_0_b8135 rfl (AA (AG (vr0_17) rfl (AA (AG (others_v) rfl (AA (AG (vI threshold) rfl (AA (AG (next_v) rfl (AA (BC (vs:=[vA #[vI x.epoch,vI x.threshold,vI x.wait,vr0_b8135_3,vr0_b8135_4],vr0_17,others_v,vI threshold,next_v]) TI (QP (O:=Bl0++O) [vI x.epoch,vI x.threshold,vI x.wait,vr0_b8135_3,vr0_b8135_4] x vr0_17 m others_v others threshold next_v next w8164 ⟨_,_,rfl,hrd0_b8135_3,hrd0_b8135_4⟩ hrd0_17 h_others h_next oM s8165.lt) rfl s8165 fun v8247 w8248 s8249 m8250 k8251 r8252=>(?_)))))))))))))
            obtain ⟨cs8253,x8255,rfl,hs8254,hl8256⟩:=r8252
            have:=hl8256.len_le
            have h_secret:=h_secret.mv m8250
            have h_more:=h_more.mv m8250
            have h_others:=h_others.mv m8250
            have h_next:=h_next.mv m8250
            have hp8088:=hp8088.mv m8250
            have hbs_0_b8135:=hbs_0_b8135.keep k8251 (by simp)
            refine AA (AG (vT #[vA cs8253.toArray,x8255,vI ((AO x m others threshold next).2.2)]) rfl (AA (AK (vA cs8253.toArray) rfl rfl (AA (AK (x8255) rfl rfl (AA (AK (vI ((AO x m others threshold next).2.2)) rfl rfl (?_))))))))
            obtain ⟨d8262,d8264,rfl,hd8263,hd8265⟩:=hs8254
            have:=hd8263.len_le
            have:=hd8265.len_le
            refine BW (BA (vs:=[vI (((AO x m others threshold next).1).epoch),vI (((AO x m others threshold next).1).threshold),vI (((AO x m others threshold next).1).wait),d8262,d8264]) (.agg #[vI (((AO x m others threshold next).1).epoch),vI (((AO x m others threshold next).1).threshold),vI (((AO x m others threshold next).1).wait),d8262,d8264]) rfl rfl rfl BK (fun u hu=>by simp only [List.mem_cons,List.not_mem_nil,or_false] at hu;rcases hu with rfl|rfl|rfl|rfl|rfl <;> first|rfl|exact hd8263.oneCell|exact hd8265.oneCell) (by repeat (assumption)) hbs_0_b8135 oT s8249 fun w8257 s8258 m8259 k8260 bx8261=>(?_))
            have h_secret:=h_secret.mv m8259
            have h_more:=h_more.mv m8259
            have h_others:=h_others.mv m8259
            have h_next:=h_next.mv m8259
            have hp8088:=hp8088.mv m8259
            have hl8256:=hl8256.mv m8259
            have hd8263:=hd8263.mv m8259
            have hd8265:=hd8265.mv m8259
            refine AA (AD (x8255) rfl (AA (AD (vI ((AO x m others threshold next).2.2)) rfl (AF (AC (?_))))))
            exact ⟨((AO x m others threshold next).1),((AO x m others threshold next).2.1),((AO x m others threshold next).2.2),x8255,d8262,d8264,Bl0,(by exact PE hr0_1),trivial,⟨_,AY _ ⟨rfl,rfl,rfl,rfl,rfl,rfl,rfl,rfl,rfl,rfl,rfl,rfl,rfl,trivial⟩⟩,s8258,(by rw [show ((AO x m others threshold next).2.1)=(AO x m others threshold next).2.1 from rfl];exact hl8256),hd8263,hd8265,h_secret,h_more,h_others,h_next,hp8088,bx8261,aS⟩
          ·intro F wlc114 hI
           clear h_secret h_more h_others h_next hp8088
           obtain ⟨x2,m2,e,vrc114_17,vrc114_b8135_3,vrc114_b8135_4,Blc114,hrc114_0,hmc114,⟨Flc114,rfl⟩,slc114,hrdc114_17,hrdc114_b8135_3,hrdc114_b8135_4,h_secret,h_more,h_others,h_next,hp8088,hbs_c114_b8135,hin_b8135⟩:=hI
           have:=hrdc114_17.len_le
           have:=hrdc114_b8135_3.len_le
           have:=hrdc114_b8135_4.len_le
           refine AE (?_)
           refine AB kR (AA (AG (vI e) rfl (AA (CV .i64 e (0:Int) rfl rfl (AF (AC (?_)))))))
           refine AL (e != (0:Int)) rfl rfl (fun hc8266=>?_) (fun hc8266=>?_)
           ·have hp8267:e≠(0:Int):=by simpa using hc8266
            refine AE (?_)
            refine AB kR (AA (AD (vO true) rfl (AF (AC (?_)))))
            refine AM (BY (AP (AP (BY (AP (AX rfl (CP rfl rfl rfl) (?_)))))))
            exact ⟨_,rfl,slc114.keep,rfl⟩
           ·have hp8268:e=(0:Int):=by simpa using hc8266
            refine AT (CI (AC (?_)))
            refine AB kR (AA (DD .i64 ((k:Nat):Int) (1:Int) (((k+1:Nat):Int)) rfl rfl (FT oM oM) (AA (AG (vI ((k+1:Nat):Int)) rfl (AF (AC (?_)))))))
            exact ⟨_,oM,(k+1),(x2),(m2),vrc114_17,vrc114_b8135_3,vrc114_b8135_4,Blc114,oM,(hrc114_0 aS),rfl,⟨_,AY _ ⟨rfl,rfl,rfl,rfl,rfl,rfl,rfl,rfl,rfl,rfl,(by rfl),rfl,trivial⟩⟩,slc114,(by rw [show (m2)=m2 from rfl];exact hrdc114_17),(by rw [show (x2).guardians=x2.guardians from rfl];exact hrdc114_b8135_3),(by rw [show (x2).recs=x2.recs from rfl];exact hrdc114_b8135_4),h_secret,h_more,h_others,h_next,hp8088,(by rw [show ([vI ((x2).epoch),vI ((x2).threshold),vI ((x2).wait),vrc114_b8135_3,vrc114_b8135_4]:List Value)=[vI x2.epoch,vI x2.threshold,vI x2.wait,vrc114_b8135_3,vrc114_b8135_4] from rfl];exact hbs_c114_b8135),aS⟩
        ·have hp8269:(3:Int)≤((k:Nat):Int):=by simpa using hc8154
         refine DH (CD (CD (DB (AC (?_)))))
         refine AE (?_)
         refine AB kR (AA (AD (vO true) rfl (AF (AC (?_)))))
         refine AM (AX rfl (CP rfl rfl rfl) (?_))
         exact ⟨_,rfl,sl0.keep,rfl⟩
   ·have hp8270:(200:Int)<(coins.length:Int):=by simpa using hb8107
    refine AS rfl (AS rfl (AS rfl (AA (BL (vO true) rfl rfl (AF (AC (?_)))))))
    refine AL true rfl rfl (fun _=>?_) (fun h=>by cases h)
    refine AE (?_)
    refine AB kR (AA (AD (vO true) rfl (AF (AC (?_)))))
    refine AM (AP (AX rfl (CP rfl rfl rfl) (?_)))
    exact ⟨_,rfl,s8099.keep,rfl⟩
  ·have hp8271:(20:Int)<(secret.length:Int):=by simpa using hb8105
   refine AS rfl (AS rfl (AS rfl (AA (BL (vO true) rfl rfl (AA (AG (vO true) rfl (AS rfl (AS rfl (AS rfl (AA (BL (vO true) rfl rfl (AF (AC (?_))))))))))))))
   refine AL true rfl rfl (fun _=>?_) (fun h=>by cases h)
   refine AE (?_)
   refine AB kR (AA (AD (vO true) rfl (AF (AC (?_)))))
   refine AM (AP (AX rfl (CP rfl rfl rfl) (?_)))
   exact ⟨_,rfl,s8099.keep,rfl⟩
 ·have hp8272:(MQ c && OW ([]))=false:=by (have e:=hb8103;rw [Bool.not_eq_true'] at e;exact e)
  refine AS rfl (AS rfl (AS rfl (AA (BL (vO true) rfl rfl (AA (AG (vO true) rfl (AS rfl (AS rfl (AS rfl (AA (BL (vO true) rfl rfl (AA (AG (vO true) rfl (AS rfl (AS rfl (AS rfl (AA (BL (vO true) rfl rfl (AF (AC (?_)))))))))))))))))))))
  refine AL true rfl rfl (fun _=>?_) (fun h=>by cases h)
  refine AE (?_)
  refine AB kR (AA (AD (vO true) rfl (AF (AC (?_)))))
  refine AM (AP (AX rfl (CP rfl rfl rfl) (?_)))
  exact ⟨_,rfl,s8099.keep,rfl⟩
end Go.Proofs.Ytjgfokolnkhafaa
