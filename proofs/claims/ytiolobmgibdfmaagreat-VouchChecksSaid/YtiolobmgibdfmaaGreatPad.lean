/- Part 4. -/
import Derived.KernelRfl
import Derived.Test.YtiolobmgibdfmaaGreatRows
import Derived.Test.YtiolobmgibdfmaaGreatPac
set_option linter.all false
section
namespace Go.Proofs.YtiolobmgibdfmaaGreat
open Go Go.Pal Go.Proofs.Tryz
abbrev dsc{k:Nat}{d:TypeDesc}(_h:Tryz.prog.underlying k=some d):TypeDesc:=d
def tree:Tr (TypeDesc×Nat×Nat×Value):=.node (.node (.node (.node (.node (.node (.node (.node .nil 0 ((.tuple #[]),1,0,.tuple #[]) .nil) 1 (dsc underlying1,1,8,.nilFunc) (.node .nil 2 ((.int .i64),1,8,.int .i64 0) .nil)) 3 ((.int .i64),1,8,.int .i64 0) (.node (.node .nil 4 (.bool,1,1,.bool false) .nil) 5 ((.int .u8),1,1,.int .u8 0) (.node .nil 6 ((.int .u8),1,1,.int .u8 0) .nil))) 7 (dsc underlying7,4,24,.agg #[.int .i64 0,.int .i64 0,.bool false,.int .u8 0]) (.node (.node (.node .nil 8 (dsc underlying8,4,24,.agg #[.int .i64 0,.int .i64 0,.bool false,.int .u8 0]) .nil) 9 (.string,1,16,.string ByteArray.empty) (.node .nil 10 (.string,1,16,.string ByteArray.empty) .nil)) 11 (.string,1,16,.string ByteArray.empty) (.node (.node .nil 12 ((.int .u64),1,8,.int .u64 0) .nil) 13 (dsc underlying13,2,24,.agg #[.string ByteArray.empty,.int .u64 0]) (.node .nil 14 (dsc underlying14,2,24,.agg #[.string ByteArray.empty,.int .u64 0]) .nil)))) 15 ((.pointer 238),1,8,.pointer none) (.node (.node (.node (.node .nil 16 ((.pointer 241),1,8,.pointer none) .nil) 17 ((.pointer 249),1,8,.pointer none) (.node .nil 18 (dsc underlying18,1,8,.agg #[.pointer none]) .nil)) 19 (dsc underlying19,1,8,.agg #[.pointer none]) (.node (.node .nil 20 ((.interface #[]),1,16,.nilIface) .nil) 21 ((.int .i32),1,4,.int .i32 0) (.node .nil 22 ((.slice 26),1,24,.slice none 0 0) .nil))) 23 (dsc underlying23,3,40,.agg #[.int .i64 0,.int .i64 0,.slice none 0 0]) (.node (.node (.node .nil 24 (dsc underlying24,3,40,.agg #[.int .i64 0,.int .i64 0,.slice none 0 0]) .nil) 25 (dsc underlying25,4,32,.agg #[.int .i64 0,.int .i64 0,.int .i64 0,.int .i64 0]) (.node .nil 26 (dsc underlying26,4,32,.agg #[.int .i64 0,.int .i64 0,.int .i64 0,.int .i64 0]) .nil)) 27 ((.slice 3),1,24,.slice none 0 0) (.node (.node .nil 28 (dsc underlying28,1,8,.nilFunc) .nil) 29 ((.slice 24),1,24,.slice none 0 0) (.node .nil 30 (dsc underlying30,1,8,.nilFunc) .nil))))) 31 ((.pointer 90),1,8,.pointer none) (.node (.node (.node (.node (.node .nil 32 (dsc underlying32,1,8,.nilFunc) .nil) 33 (dsc underlying33,1,8,.nilFunc) (.node .nil 34 ((.int .i64),1,8,.int .i64 0) .nil)) 35 (dsc underlying35,1,0,.tuple #[.int .i64 0,.int .i64 0]) (.node (.node .nil 36 (dsc underlying36,1,8,.nilFunc) .nil) 37 (dsc underlying37,2,48,.agg #[.slice none 0 0,.slice none 0 0]) (.node .nil 38 (dsc underlying38,2,48,.agg #[.slice none 0 0,.slice none 0 0]) .nil))) 39 (dsc underlying39,1,0,.tuple #[.agg #[.slice none 0 0,.slice none 0 0],.int .i64 0]) (.node (.node (.node .nil 40 (dsc underlying40,1,8,.nilFunc) .nil) 41 (dsc underlying41,2,16,.agg #[.int .i64 0,.int .i64 0]) (.node .nil 42 (dsc underlying42,2,16,.agg #[.int .i64 0,.int .i64 0]) .nil)) 43 (dsc underlying43,1,0,.tuple #[.agg #[.int .i64 0,.int .i64 0],.int .i64 0]) (.node (.node .nil 44 (dsc underlying44,1,8,.nilFunc) .nil) 45 (dsc underlying45,1,8,.nilFunc) (.node .nil 46 (dsc underlying46,1,8,.nilFunc) .nil)))) 47 (dsc underlying47,1,8,.nilFunc) (.node (.node (.node (.node .nil 48 (dsc underlying48,1,0,.tuple #[.slice none 0 0,.int .i64 0]) .nil) 49 (dsc underlying49,1,8,.nilFunc) (.node .nil 50 (dsc underlying50,1,8,.nilFunc) .nil)) 51 (dsc underlying51,1,0,.tuple #[.int .i64 0,.int .i64 0,.int .i64 0]) (.node (.node .nil 52 (dsc underlying52,1,8,.nilFunc) .nil) 53 (dsc underlying53,1,8,.nilFunc) (.node .nil 54 (dsc underlying54,1,8,.nilFunc) .nil))) 55 (dsc underlying55,1,0,.tuple #[.agg #[.int .i64 0,.int .i64 0,.slice none 0 0],.agg #[.slice none 0 0,.slice none 0 0]]) (.node (.node (.node .nil 56 (dsc underlying56,1,8,.nilFunc) .nil) 57 (dsc underlying57,1,8,.nilFunc) (.node .nil 58 (dsc underlying58,1,8,.nilFunc) .nil)) 59 (dsc underlying59,1,8,.nilFunc) (.node (.node .nil 60 (dsc underlying60,1,8,.nilFunc) .nil) 61 (dsc underlying61,1,8,.nilFunc) .nil))))) 62 (dsc underlying62,1,8,.nilFunc) (.node (.node (.node (.node (.node (.node .nil 63 ((.slice 27),1,24,.slice none 0 0) .nil) 64 (dsc underlying64,1,8,.nilFunc) (.node .nil 65 (dsc underlying65,1,8,.nilFunc) .nil)) 66 ((.slice 38),1,24,.slice none 0 0) (.node (.node .nil 67 (dsc underlying67,1,0,.tuple #[.slice none 0 0,.bool false]) .nil) 68 (dsc underlying68,1,8,.nilFunc) (.node .nil 69 (dsc underlying69,1,8,.nilFunc) .nil))) 70 (dsc underlying70,1,8,.nilFunc) (.node (.node (.node .nil 71 (dsc underlying71,1,8,.nilFunc) .nil) 72 (dsc underlying72,1,8,.nilFunc) (.node .nil 73 (dsc underlying73,1,8,.nilFunc) .nil)) 74 (dsc underlying74,1,8,.nilFunc) (.node (.node .nil 75 (dsc underlying75,1,8,.nilFunc) .nil) 76 (dsc underlying76,1,8,.nilFunc) (.node .nil 77 (dsc underlying77,1,8,.nilFunc) .nil)))) 78 (dsc underlying78,1,8,.nilFunc) (.node (.node (.node (.node .nil 79 (dsc underlying79,1,8,.nilFunc) .nil) 80 (dsc underlying80,1,8,.nilFunc) (.node .nil 81 (dsc underlying81,1,8,.nilFunc) .nil)) 82 (dsc underlying82,1,8,.nilFunc) (.node (.node .nil 83 (dsc underlying83,1,0,.tuple #[.agg #[.int .i64 0,.int .i64 0,.slice none 0 0],.int .i64 0]) .nil) 84 (dsc underlying84,1,8,.nilFunc) (.node .nil 85 (dsc underlying85,1,8,.nilFunc) .nil))) 86 (dsc underlying86,1,8,.nilFunc) (.node (.node (.node .nil 87 ((.slice 34),1,24,.slice none 0 0) .nil) 88 ((.int .u64),1,8,.int .u64 0) (.node .nil 89 (dsc underlying89,3,40,.agg #[.slice none 0 0,.int .i64 0,.int .u64 0]) .nil)) 90 (dsc underlying90,3,40,.agg #[.slice none 0 0,.int .i64 0,.int .u64 0]) (.node (.node .nil 91 (dsc underlying91,1,8,.nilFunc) .nil) 92 ((.pointer 34),1,8,.pointer none) (.node .nil 93 ((.slice 102),1,24,.slice none 0 0) .nil))))) 94 (dsc underlying94,3,40,.agg #[.int .i64 0,.int .i64 0,.slice none 0 0]) (.node (.node (.node (.node (.node .nil 95 (dsc underlying95,3,40,.agg #[.int .i64 0,.int .i64 0,.slice none 0 0]) .nil) 96 (dsc underlying96,1,8,.nilFunc) (.node .nil 97 (dsc underlying97,1,8,.nilFunc) .nil)) 98 (dsc underlying98,1,8,.nilFunc) (.node (.node .nil 99 (dsc underlying99,1,8,.nilFunc) .nil) 100 ((.int .u8),1,1,.int .u8 0) (.node .nil 101 (dsc underlying101,2,2,.agg #[.int .u8 0,.int .u8 0]) .nil))) 102 (dsc underlying102,2,2,.agg #[.int .u8 0,.int .u8 0]) (.node (.node (.node .nil 103 (dsc underlying103,1,0,.tuple #[.slice none 0 0,.int .i64 0]) .nil) 104 (dsc underlying104,1,8,.nilFunc) (.node .nil 105 (dsc underlying105,1,8,.nilFunc) .nil)) 106 (dsc underlying106,1,0,.tuple #[.slice none 0 0,.bool false]) (.node (.node .nil 107 (dsc underlying107,1,8,.nilFunc) .nil) 108 (dsc underlying108,1,8,.nilFunc) (.node .nil 109 (dsc underlying109,3,24,.agg #[.int .i64 0,.int .i64 0,.bool false]) .nil)))) 110 (dsc underlying110,3,24,.agg #[.int .i64 0,.int .i64 0,.bool false]) (.node (.node (.node (.node .nil 111 (dsc underlying111,1,8,.nilFunc) .nil) 112 (dsc underlying112,1,8,.nilFunc) (.node .nil 113 (dsc underlying113,1,8,.nilFunc) .nil)) 114 (dsc underlying114,1,8,.nilFunc) (.node (.node .nil 115 ((.map 100 4),1,8,.map none) .nil) 116 ((.tuple #[4,4]),1,0,.tuple #[.bool false,.bool false]) (.node .nil 117 (dsc underlying117,1,8,.nilFunc) .nil))) 118 (dsc underlying118,1,8,.nilFunc) (.node (.node (.node .nil 119 (dsc underlying119,1,8,.nilFunc) .nil) 120 (dsc underlying120,1,8,.nilFunc) (.node .nil 121 (dsc underlying121,1,8,.nilFunc) .nil)) 122 (dsc underlying122,1,8,.nilFunc) (.node (.node .nil 123 (dsc underlying123,1,16,.nilIface) .nil) 124 (dsc underlying124,1,16,.nilIface) .nil)))))) 125 (dsc underlying125,1,8,.nilFunc) (.node (.node (.node (.node (.node (.node (.node .nil 126 (dsc underlying126,1,8,.nilFunc) .nil) 127 (dsc underlying127,1,8,.nilFunc) (.node .nil 128 (dsc underlying128,1,8,.nilFunc) .nil)) 129 (dsc underlying129,1,8,.nilFunc) (.node (.node .nil 130 (dsc underlying130,1,8,.nilFunc) .nil) 131 (dsc underlying131,1,8,.nilFunc) (.node .nil 132 (dsc underlying132,1,8,.nilFunc) .nil))) 133 (dsc underlying133,1,8,.nilFunc) (.node (.node (.node .nil 134 (dsc underlying134,1,8,.nilFunc) .nil) 135 (dsc underlying135,1,8,.nilFunc) (.node .nil 136 (dsc underlying136,1,8,.nilFunc) .nil)) 137 (dsc underlying137,1,8,.nilFunc) (.node (.node .nil 138 (dsc underlying138,1,8,.nilFunc) .nil) 139 (dsc underlying139,1,8,.nilFunc) (.node .nil 140 (dsc underlying140,1,8,.nilFunc) .nil)))) 141 ((.int .i64),1,8,.int .i64 0) (.node (.node (.node (.node .nil 142 (dsc underlying142,1,0,.tuple #[.int .i64 0,.bool false]) .nil) 143 ((.map 102 4),1,8,.map none) (.node .nil 144 (dsc underlying144,1,8,.nilFunc) .nil)) 145 (dsc underlying145,1,8,.nilFunc) (.node (.node .nil 146 (dsc underlying146,1,8,.nilFunc) .nil) 147 ((.struct #[]),0,0,.agg #[]) (.node .nil 148 ((.struct #[]),0,0,.agg #[]) .nil))) 149 ((.struct #[]),0,0,.agg #[]) (.node (.node (.node .nil 150 (dsc underlying150,1,8,.agg #[.int .i64 0]) .nil) 151 (dsc underlying151,1,8,.agg #[.int .i64 0]) (.node .nil 152 ((.struct #[]),0,0,.agg #[]) .nil)) 153 ((.int .u32),1,4,.int .u32 0) (.node (.node .nil 154 (dsc underlying154,2,8,.agg #[.int .i32 0,.int .u32 0]) .nil) 155 (dsc underlying155,2,8,.agg #[.int .i32 0,.int .u32 0]) (.node .nil 156 (dsc underlying156,2,8,.agg #[.int .i32 0,.int .u32 0]) .nil))))) 157 (dsc underlying157,2,8,.agg #[.int .i32 0,.int .u32 0]) (.node (.node (.node (.node (.node .nil 158 (dsc underlying158,1,8,.agg #[.int .u64 0]) .nil) 159 (dsc underlying159,1,8,.agg #[.int .u64 0]) (.node .nil 160 (dsc underlying160,2,16,.agg #[.int .u64 0,.int .u32 0]) .nil)) 161 (dsc underlying161,2,16,.agg #[.int .u64 0,.int .u32 0]) (.node (.node .nil 162 (dsc underlying162,1,8,.nilFunc) .nil) 163 (dsc underlying163,1,8,.nilFunc) (.node .nil 164 (dsc underlying164,1,8,.nilFunc) .nil))) 165 (dsc underlying165,1,8,.nilFunc) (.node (.node (.node .nil 166 (dsc underlying166,1,8,.nilFunc) .nil) 167 (dsc underlying167,1,8,.nilFunc) (.node .nil 168 ((.pointer 110),1,8,.pointer none) .nil)) 169 (dsc underlying169,1,8,.agg #[.int .i64 0]) (.node (.node .nil 170 (dsc underlying170,1,8,.agg #[.int .i64 0]) .nil) 171 (dsc underlying171,1,8,.agg #[.int .i64 0]) (.node .nil 172 (dsc underlying172,1,8,.agg #[.int .i64 0]) .nil)))) 173 (dsc underlying173,1,8,.agg #[.int .i64 0]) (.node (.node (.node (.node .nil 174 (dsc underlying174,1,8,.agg #[.int .i64 0]) .nil) 175 (dsc underlying175,2,16,.agg #[.int .i64 0,.int .i64 0]) (.node .nil 176 (dsc underlying176,2,16,.agg #[.int .i64 0,.int .i64 0]) .nil)) 177 (dsc underlying177,2,16,.agg #[.int .i64 0,.int .i64 0]) (.node (.node .nil 178 (dsc underlying178,2,16,.agg #[.int .i64 0,.int .i64 0]) .nil) 179 (dsc underlying179,1,8,.agg #[.int .i64 0]) (.node .nil 180 (dsc underlying180,1,8,.agg #[.int .i64 0]) .nil))) 181 ((.slice 124),1,24,.slice none 0 0) (.node (.node (.node .nil 182 (dsc underlying182,1,0,.tuple #[.agg #[.int .i64 0],.bool false]) .nil) 183 ((.int .u64),1,8,.int .u64 0) (.node .nil 184 ((.pointer 161),1,8,.pointer none) .nil)) 185 (dsc underlying185,1,8,.nilFunc) (.node (.node .nil 186 (.unsafePointer,1,8,.pointer none) .nil) 187 ((.int .i64),1,8,.int .i64 0) .nil))))) 188 (dsc underlying188,1,8,.nilFunc) (.node (.node (.node (.node (.node (.node .nil 189 (dsc underlying189,1,8,.nilFunc) .nil) 190 (dsc underlying190,1,8,.nilFunc) (.node .nil 191 ((.pointer 153),1,8,.pointer none) .nil)) 192 (dsc underlying192,1,8,.nilFunc) (.node (.node .nil 193 (dsc underlying193,1,8,.nilFunc) .nil) 194 (dsc underlying194,1,8,.nilFunc) (.node .nil 195 ((.pointer 151),1,8,.pointer none) .nil))) 196 (dsc underlying196,1,8,.nilFunc) (.node (.node (.node .nil 197 ((.pointer 2),1,8,.pointer none) .nil) 198 ((.pointer 157),1,8,.pointer none) (.node .nil 199 (dsc underlying199,1,8,.nilFunc) .nil)) 200 (dsc underlying200,1,8,.nilFunc) (.node (.node .nil 201 (dsc underlying201,1,8,.nilFunc) .nil) 202 (dsc underlying202,1,8,.nilFunc) (.node .nil 203 (dsc underlying203,1,8,.nilFunc) .nil)))) 204 (dsc underlying204,1,8,.nilFunc) (.node (.node (.node (.node .nil 205 (dsc underlying205,1,8,.nilFunc) .nil) 206 ((.pointer 159),1,8,.pointer none) (.node .nil 207 (dsc underlying207,1,8,.nilFunc) .nil)) 208 ((.pointer 88),1,8,.pointer none) (.node (.node .nil 209 (dsc underlying209,1,8,.nilFunc) .nil) 210 (dsc underlying210,1,8,.nilFunc) (.node .nil 211 ((.pointer 155),1,8,.pointer none) .nil))) 212 (dsc underlying212,1,8,.nilFunc) (.node (.node (.node .nil 213 ((.pointer 21),1,8,.pointer none) .nil) 214 (dsc underlying214,1,8,.nilFunc) (.node .nil 215 (dsc underlying215,1,8,.nilFunc) .nil)) 216 (dsc underlying216,1,8,.nilFunc) (.node (.node .nil 217 (dsc underlying217,1,8,.nilFunc) .nil) 218 ((.int .i64),1,8,.int .i64 0) .nil)))) 219 (dsc underlying219,1,0,.tuple #[.int .i64 0,.int .i64 0]) (.node (.node (.node (.node (.node .nil 220 (dsc underlying220,1,8,.nilFunc) .nil) 221 (dsc underlying221,1,8,.nilFunc) (.node .nil 222 (dsc underlying222,1,8,.nilFunc) .nil)) 223 ((.tuple #[3,4]),1,0,.tuple #[.int .i64 0,.bool false]) (.node (.node .nil 224 (dsc underlying224,1,8,.nilFunc) .nil) 225 (dsc underlying225,1,8,.nilFunc) (.node .nil 226 (dsc underlying226,1,8,.nilFunc) .nil))) 227 (dsc underlying227,1,8,.nilFunc) (.node (.node (.node .nil 228 ((.int .u64),1,8,.int .u64 0) .nil) 229 (dsc underlying229,1,8,.nilFunc) (.node .nil 230 (dsc underlying230,1,8,.nilFunc) .nil)) 231 ((.pointer 3),1,8,.pointer none) (.node (.node .nil 232 (dsc underlying232,1,8,.nilFunc) .nil) 233 ((.pointer 228),1,8,.pointer none) (.node .nil 234 ((.tuple #[3,3]),1,0,.tuple #[.int .i64 0,.int .i64 0]) .nil)))) 235 (dsc underlying235,1,8,.nilFunc) (.node (.node (.node (.node .nil 236 (dsc underlying236,1,8,.nilFunc) .nil) 237 (dsc underlying237,4,40,.agg #[.pointer none,.pointer none,.pointer none,.string ByteArray.empty]) (.node .nil 238 (dsc underlying238,4,40,.agg #[.pointer none,.pointer none,.pointer none,.string ByteArray.empty]) .nil)) 239 ((.array 0 16),0,0,.agg #[]) (.node (.node .nil 240 (dsc underlying240,0,0,.agg #[]) .nil) 241 (dsc underlying241,0,0,.agg #[]) (.node .nil 242 ((.int .u8),1,1,.int .u8 0) .nil))) 243 ((.int .u8),1,1,.int .u8 0) (.node (.node (.node .nil 244 (dsc underlying244,1,8,.nilFunc) .nil) 245 ((.pointer 5),1,8,.pointer none) (.node .nil 246 ((.int .i32),1,4,.int .i32 0) .nil)) 247 ((.int .i32),1,4,.int .i32 0) (.node (.node .nil 248 (dsc underlying248,11,48,.agg #[.int .u64 0,.int .u64 0,.int .u32 0,.int .u8 0,.int .u8 0,.int .u8 0,.int .u8 0,.nilFunc,.pointer none,.int .i32 0,.int .i32 0]) .nil) 249 (dsc underlying249,11,48,.agg #[.int .u64 0,.int .u64 0,.int .u32 0,.int .u8 0,.int .u8 0,.int .u8 0,.int .u8 0,.nilFunc,.pointer none,.int .i32 0,.int .i32 0]) .nil))))))
set_option maxRecDepth 100000 in
theorem tree_ok:tree.All (fun k x=>Tryz.prog.underlying k=some x.1∧(Tryz.prog.info? k).map (fun i=>(i.size,i.bytes,i.zero))=some (x.2.1,x.2.2.1,some x.2.2.2)):=
  ⟨⟨⟨⟨⟨⟨⟨⟨trivial,⟨underlying0,kR⟩,trivial⟩,
 ⟨underlying1,kR⟩,
 ⟨trivial,⟨underlying2,kR⟩,trivial⟩⟩,
 ⟨underlying3,kR⟩,
 ⟨⟨trivial,⟨underlying4,kR⟩,trivial⟩,
 ⟨underlying5,kR⟩,
 ⟨trivial,⟨underlying6,kR⟩,trivial⟩⟩⟩,
 ⟨underlying7,kR⟩,
 ⟨⟨⟨trivial,⟨underlying8,kR⟩,trivial⟩,
 ⟨underlying9,kR⟩,
 ⟨trivial,⟨underlying10,kR⟩,trivial⟩⟩,
 ⟨underlying11,kR⟩,
 ⟨⟨trivial,⟨underlying12,kR⟩,trivial⟩,
 ⟨underlying13,kR⟩,
 ⟨trivial,⟨underlying14,kR⟩,trivial⟩⟩⟩⟩,
 ⟨underlying15,kR⟩,
 ⟨⟨⟨⟨trivial,⟨underlying16,kR⟩,trivial⟩,
 ⟨underlying17,kR⟩,
 ⟨trivial,⟨underlying18,kR⟩,trivial⟩⟩,
 ⟨underlying19,kR⟩,
 ⟨⟨trivial,⟨underlying20,kR⟩,trivial⟩,
 ⟨underlying21,kR⟩,
 ⟨trivial,⟨underlying22,kR⟩,trivial⟩⟩⟩,
 ⟨underlying23,kR⟩,
 ⟨⟨⟨trivial,⟨underlying24,kR⟩,trivial⟩,
 ⟨underlying25,kR⟩,
 ⟨trivial,⟨underlying26,kR⟩,trivial⟩⟩,
 ⟨underlying27,kR⟩,
 ⟨⟨trivial,⟨underlying28,kR⟩,trivial⟩,
 ⟨underlying29,kR⟩,
 ⟨trivial,⟨underlying30,kR⟩,trivial⟩⟩⟩⟩⟩,
 ⟨underlying31,kR⟩,
 ⟨⟨⟨⟨⟨trivial,⟨underlying32,kR⟩,trivial⟩,
 ⟨underlying33,kR⟩,
 ⟨trivial,⟨underlying34,kR⟩,trivial⟩⟩,
 ⟨underlying35,kR⟩,
 ⟨⟨trivial,⟨underlying36,kR⟩,trivial⟩,
 ⟨underlying37,kR⟩,
 ⟨trivial,⟨underlying38,kR⟩,trivial⟩⟩⟩,
 ⟨underlying39,kR⟩,
 ⟨⟨⟨trivial,⟨underlying40,kR⟩,trivial⟩,
 ⟨underlying41,kR⟩,
 ⟨trivial,⟨underlying42,kR⟩,trivial⟩⟩,
 ⟨underlying43,kR⟩,
 ⟨⟨trivial,⟨underlying44,kR⟩,trivial⟩,
 ⟨underlying45,kR⟩,
 ⟨trivial,⟨underlying46,kR⟩,trivial⟩⟩⟩⟩,
 ⟨underlying47,kR⟩,
 ⟨⟨⟨⟨trivial,⟨underlying48,kR⟩,trivial⟩,
 ⟨underlying49,kR⟩,
 ⟨trivial,⟨underlying50,kR⟩,trivial⟩⟩,
 ⟨underlying51,kR⟩,
 ⟨⟨trivial,⟨underlying52,kR⟩,trivial⟩,
 ⟨underlying53,kR⟩,
 ⟨trivial,⟨underlying54,kR⟩,trivial⟩⟩⟩,
 ⟨underlying55,kR⟩,
 ⟨⟨⟨trivial,⟨underlying56,kR⟩,trivial⟩,
 ⟨underlying57,kR⟩,
 ⟨trivial,⟨underlying58,kR⟩,trivial⟩⟩,
 ⟨underlying59,kR⟩,
 ⟨⟨trivial,⟨underlying60,kR⟩,trivial⟩,
 ⟨underlying61,kR⟩,trivial⟩⟩⟩⟩⟩,
 ⟨underlying62,kR⟩,
 ⟨⟨⟨⟨⟨⟨trivial,⟨underlying63,kR⟩,trivial⟩,
 ⟨underlying64,kR⟩,
 ⟨trivial,⟨underlying65,kR⟩,trivial⟩⟩,
 ⟨underlying66,kR⟩,
 ⟨⟨trivial,⟨underlying67,kR⟩,trivial⟩,
 ⟨underlying68,kR⟩,
 ⟨trivial,⟨underlying69,kR⟩,trivial⟩⟩⟩,
 ⟨underlying70,kR⟩,
 ⟨⟨⟨trivial,⟨underlying71,kR⟩,trivial⟩,
 ⟨underlying72,kR⟩,
 ⟨trivial,⟨underlying73,kR⟩,trivial⟩⟩,
 ⟨underlying74,kR⟩,
 ⟨⟨trivial,⟨underlying75,kR⟩,trivial⟩,
 ⟨underlying76,kR⟩,
 ⟨trivial,⟨underlying77,kR⟩,trivial⟩⟩⟩⟩,
 ⟨underlying78,kR⟩,
 ⟨⟨⟨⟨trivial,⟨underlying79,kR⟩,trivial⟩,
 ⟨underlying80,kR⟩,
 ⟨trivial,⟨underlying81,kR⟩,trivial⟩⟩,
 ⟨underlying82,kR⟩,
 ⟨⟨trivial,⟨underlying83,kR⟩,trivial⟩,
 ⟨underlying84,kR⟩,
 ⟨trivial,⟨underlying85,kR⟩,trivial⟩⟩⟩,
 ⟨underlying86,kR⟩,
 ⟨⟨⟨trivial,⟨underlying87,kR⟩,trivial⟩,
 ⟨underlying88,kR⟩,
 ⟨trivial,⟨underlying89,kR⟩,trivial⟩⟩,
 ⟨underlying90,kR⟩,
 ⟨⟨trivial,⟨underlying91,kR⟩,trivial⟩,
 ⟨underlying92,kR⟩,
 ⟨trivial,⟨underlying93,kR⟩,trivial⟩⟩⟩⟩⟩,
 ⟨underlying94,kR⟩,
 ⟨⟨⟨⟨⟨trivial,⟨underlying95,kR⟩,trivial⟩,
 ⟨underlying96,kR⟩,
 ⟨trivial,⟨underlying97,kR⟩,trivial⟩⟩,
 ⟨underlying98,kR⟩,
 ⟨⟨trivial,⟨underlying99,kR⟩,trivial⟩,
 ⟨underlying100,kR⟩,
 ⟨trivial,⟨underlying101,kR⟩,trivial⟩⟩⟩,
 ⟨underlying102,kR⟩,
 ⟨⟨⟨trivial,⟨underlying103,kR⟩,trivial⟩,
 ⟨underlying104,kR⟩,
 ⟨trivial,⟨underlying105,kR⟩,trivial⟩⟩,
 ⟨underlying106,kR⟩,
 ⟨⟨trivial,⟨underlying107,kR⟩,trivial⟩,
 ⟨underlying108,kR⟩,
 ⟨trivial,⟨underlying109,kR⟩,trivial⟩⟩⟩⟩,
 ⟨underlying110,kR⟩,
 ⟨⟨⟨⟨trivial,⟨underlying111,kR⟩,trivial⟩,
 ⟨underlying112,kR⟩,
 ⟨trivial,⟨underlying113,kR⟩,trivial⟩⟩,
 ⟨underlying114,kR⟩,
 ⟨⟨trivial,⟨underlying115,kR⟩,trivial⟩,
 ⟨underlying116,kR⟩,
 ⟨trivial,⟨underlying117,kR⟩,trivial⟩⟩⟩,
 ⟨underlying118,kR⟩,
 ⟨⟨⟨trivial,⟨underlying119,kR⟩,trivial⟩,
 ⟨underlying120,kR⟩,
 ⟨trivial,⟨underlying121,kR⟩,trivial⟩⟩,
 ⟨underlying122,kR⟩,
 ⟨⟨trivial,⟨underlying123,kR⟩,trivial⟩,
 ⟨underlying124,kR⟩,trivial⟩⟩⟩⟩⟩⟩,
 ⟨underlying125,kR⟩,
 ⟨⟨⟨⟨⟨⟨⟨trivial,⟨underlying126,kR⟩,trivial⟩,
 ⟨underlying127,kR⟩,
 ⟨trivial,⟨underlying128,kR⟩,trivial⟩⟩,
 ⟨underlying129,kR⟩,
 ⟨⟨trivial,⟨underlying130,kR⟩,trivial⟩,
 ⟨underlying131,kR⟩,
 ⟨trivial,⟨underlying132,kR⟩,trivial⟩⟩⟩,
 ⟨underlying133,kR⟩,
 ⟨⟨⟨trivial,⟨underlying134,kR⟩,trivial⟩,
 ⟨underlying135,kR⟩,
 ⟨trivial,⟨underlying136,kR⟩,trivial⟩⟩,
 ⟨underlying137,kR⟩,
 ⟨⟨trivial,⟨underlying138,kR⟩,trivial⟩,
 ⟨underlying139,kR⟩,
 ⟨trivial,⟨underlying140,kR⟩,trivial⟩⟩⟩⟩,
 ⟨underlying141,kR⟩,
 ⟨⟨⟨⟨trivial,⟨underlying142,kR⟩,trivial⟩,
 ⟨underlying143,kR⟩,
 ⟨trivial,⟨underlying144,kR⟩,trivial⟩⟩,
 ⟨underlying145,kR⟩,
 ⟨⟨trivial,⟨underlying146,kR⟩,trivial⟩,
 ⟨underlying147,kR⟩,
 ⟨trivial,⟨underlying148,kR⟩,trivial⟩⟩⟩,
 ⟨underlying149,kR⟩,
 ⟨⟨⟨trivial,⟨underlying150,kR⟩,trivial⟩,
 ⟨underlying151,kR⟩,
 ⟨trivial,⟨underlying152,kR⟩,trivial⟩⟩,
 ⟨underlying153,kR⟩,
 ⟨⟨trivial,⟨underlying154,kR⟩,trivial⟩,
 ⟨underlying155,kR⟩,
 ⟨trivial,⟨underlying156,kR⟩,trivial⟩⟩⟩⟩⟩,
 ⟨underlying157,kR⟩,
 ⟨⟨⟨⟨⟨trivial,⟨underlying158,kR⟩,trivial⟩,
 ⟨underlying159,kR⟩,
 ⟨trivial,⟨underlying160,kR⟩,trivial⟩⟩,
 ⟨underlying161,kR⟩,
 ⟨⟨trivial,⟨underlying162,kR⟩,trivial⟩,
 ⟨underlying163,kR⟩,
 ⟨trivial,⟨underlying164,kR⟩,trivial⟩⟩⟩,
 ⟨underlying165,kR⟩,
 ⟨⟨⟨trivial,⟨underlying166,kR⟩,trivial⟩,
 ⟨underlying167,kR⟩,
 ⟨trivial,⟨underlying168,kR⟩,trivial⟩⟩,
 ⟨underlying169,kR⟩,
 ⟨⟨trivial,⟨underlying170,kR⟩,trivial⟩,
 ⟨underlying171,kR⟩,
 ⟨trivial,⟨underlying172,kR⟩,trivial⟩⟩⟩⟩,
 ⟨underlying173,kR⟩,
 ⟨⟨⟨⟨trivial,⟨underlying174,kR⟩,trivial⟩,
 ⟨underlying175,kR⟩,
 ⟨trivial,⟨underlying176,kR⟩,trivial⟩⟩,
 ⟨underlying177,kR⟩,
 ⟨⟨trivial,⟨underlying178,kR⟩,trivial⟩,
 ⟨underlying179,kR⟩,
 ⟨trivial,⟨underlying180,kR⟩,trivial⟩⟩⟩,
 ⟨underlying181,kR⟩,
 ⟨⟨⟨trivial,⟨underlying182,kR⟩,trivial⟩,
 ⟨underlying183,kR⟩,
 ⟨trivial,⟨underlying184,kR⟩,trivial⟩⟩,
 ⟨underlying185,kR⟩,
 ⟨⟨trivial,⟨underlying186,kR⟩,trivial⟩,
 ⟨underlying187,kR⟩,trivial⟩⟩⟩⟩⟩,
 ⟨underlying188,kR⟩,
 ⟨⟨⟨⟨⟨⟨trivial,⟨underlying189,kR⟩,trivial⟩,
 ⟨underlying190,kR⟩,
 ⟨trivial,⟨underlying191,kR⟩,trivial⟩⟩,
 ⟨underlying192,kR⟩,
 ⟨⟨trivial,⟨underlying193,kR⟩,trivial⟩,
 ⟨underlying194,kR⟩,
 ⟨trivial,⟨underlying195,kR⟩,trivial⟩⟩⟩,
 ⟨underlying196,kR⟩,
 ⟨⟨⟨trivial,⟨underlying197,kR⟩,trivial⟩,
 ⟨underlying198,kR⟩,
 ⟨trivial,⟨underlying199,kR⟩,trivial⟩⟩,
 ⟨underlying200,kR⟩,
 ⟨⟨trivial,⟨underlying201,kR⟩,trivial⟩,
 ⟨underlying202,kR⟩,
 ⟨trivial,⟨underlying203,kR⟩,trivial⟩⟩⟩⟩,
 ⟨underlying204,kR⟩,
 ⟨⟨⟨⟨trivial,⟨underlying205,kR⟩,trivial⟩,
 ⟨underlying206,kR⟩,
 ⟨trivial,⟨underlying207,kR⟩,trivial⟩⟩,
 ⟨underlying208,kR⟩,
 ⟨⟨trivial,⟨underlying209,kR⟩,trivial⟩,
 ⟨underlying210,kR⟩,
 ⟨trivial,⟨underlying211,kR⟩,trivial⟩⟩⟩,
 ⟨underlying212,kR⟩,
 ⟨⟨⟨trivial,⟨underlying213,kR⟩,trivial⟩,
 ⟨underlying214,kR⟩,
 ⟨trivial,⟨underlying215,kR⟩,trivial⟩⟩,
 ⟨underlying216,kR⟩,
 ⟨⟨trivial,⟨underlying217,kR⟩,trivial⟩,
 ⟨underlying218,kR⟩,trivial⟩⟩⟩⟩,
 ⟨underlying219,kR⟩,
 ⟨⟨⟨⟨⟨trivial,⟨underlying220,kR⟩,trivial⟩,
 ⟨underlying221,kR⟩,
 ⟨trivial,⟨underlying222,kR⟩,trivial⟩⟩,
 ⟨underlying223,kR⟩,
 ⟨⟨trivial,⟨underlying224,kR⟩,trivial⟩,
 ⟨underlying225,kR⟩,
 ⟨trivial,⟨underlying226,kR⟩,trivial⟩⟩⟩,
 ⟨underlying227,kR⟩,
 ⟨⟨⟨trivial,⟨underlying228,kR⟩,trivial⟩,
 ⟨underlying229,kR⟩,
 ⟨trivial,⟨underlying230,kR⟩,trivial⟩⟩,
 ⟨underlying231,kR⟩,
 ⟨⟨trivial,⟨underlying232,kR⟩,trivial⟩,
 ⟨underlying233,kR⟩,
 ⟨trivial,⟨underlying234,kR⟩,trivial⟩⟩⟩⟩,
 ⟨underlying235,kR⟩,
 ⟨⟨⟨⟨trivial,⟨underlying236,kR⟩,trivial⟩,
 ⟨underlying237,kR⟩,
 ⟨trivial,⟨underlying238,kR⟩,trivial⟩⟩,
 ⟨underlying239,kR⟩,
 ⟨⟨trivial,⟨underlying240,kR⟩,trivial⟩,
 ⟨underlying241,kR⟩,
 ⟨trivial,⟨underlying242,kR⟩,trivial⟩⟩⟩,
 ⟨underlying243,kR⟩,
 ⟨⟨⟨trivial,⟨underlying244,kR⟩,trivial⟩,
 ⟨underlying245,kR⟩,
 ⟨trivial,⟨underlying246,kR⟩,trivial⟩⟩,
 ⟨underlying247,kR⟩,
 ⟨⟨trivial,⟨underlying248,kR⟩,trivial⟩,
 ⟨underlying249,kR⟩,trivial⟩⟩⟩⟩⟩⟩⟩
def tab:Tab Tryz.prog:=tabOf tree tree_ok
theorem A1w:Tryz.prog.follows .mixedOrders=true:=by kernel_rfl
theorem bod21:A0n Tryz.prog 21:=⟨_,_,func21,Z,by decide⟩
theorem bod23:A0n Tryz.prog 23:=⟨_,_,func23,Z,by decide⟩
theorem bod25:A0n Tryz.prog 25:=⟨_,_,func25,Z,by decide⟩
theorem bod27:A0n Tryz.prog 27:=⟨_,_,func27,Z,by decide⟩
theorem bod29:A0n Tryz.prog 29:=⟨_,_,func29,Z,by decide⟩
theorem bod31:A0n Tryz.prog 31:=⟨_,_,func31,Z,by decide⟩
theorem bod33:A0n Tryz.prog 33:=⟨_,_,func33,Z,by decide⟩
theorem bod35:A0n Tryz.prog 35:=⟨_,_,func35,Z,by decide⟩
theorem bod36:A0n Tryz.prog 36:=⟨_,_,func36,Z,by decide⟩
theorem bod38:A0n Tryz.prog 38:=⟨_,_,func38,Z,by decide⟩
theorem bod40:A0n Tryz.prog 40:=⟨_,_,func40,Z,by decide⟩
theorem bod41:A0n Tryz.prog 41:=⟨_,_,func41,Z,by decide⟩
theorem bod42:A0n Tryz.prog 42:=⟨_,_,func42,Z,by decide⟩
theorem A8c:A0n Tryz.prog 43:=⟨_,_,func43,Z,by decide⟩
theorem bod44:A0n Tryz.prog 44:=⟨_,_,func44,Z,by decide⟩
theorem bod45:A0n Tryz.prog 45:=⟨_,_,func45,Z,by decide⟩
theorem bod46:A0n Tryz.prog 46:=⟨_,_,func46,Z,by decide⟩
theorem bod47:A0n Tryz.prog 47:=⟨_,_,func47,Z,by decide⟩
theorem bod48:A0n Tryz.prog 48:=⟨_,_,func48,Z,by decide⟩
theorem bod49:A0n Tryz.prog 49:=⟨_,_,func49,Z,by decide⟩
theorem bod50:A0n Tryz.prog 50:=⟨_,_,func50,Z,by decide⟩
theorem bod54:A0n Tryz.prog 54:=⟨_,_,func54,Z,by decide⟩
theorem bod56:A0n Tryz.prog 56:=⟨_,_,func56,Z,by decide⟩
theorem bod64:A0n Tryz.prog 64:=⟨_,_,func64,Z,by decide⟩
theorem bod73:A0n Tryz.prog 73:=⟨_,_,func73,Z,by decide⟩
theorem bod74:A0n Tryz.prog 74:=⟨_,_,func74,Z,by decide⟩
theorem bod75:A0n Tryz.prog 75:=⟨_,_,func75,Z,by decide⟩
theorem bod76:A0n Tryz.prog 76:=⟨_,_,func76,Z,by decide⟩
theorem bod77:A0n Tryz.prog 77:=⟨_,_,func77,Z,by decide⟩
theorem bod78:A0n Tryz.prog 78:=⟨_,_,func78,Z,by decide⟩
theorem bod79:A0n Tryz.prog 79:=⟨_,_,func79,Z,by decide⟩
theorem bod80:A0n Tryz.prog 80:=⟨_,_,func80,Z,by decide⟩
theorem bod82:A0n Tryz.prog 82:=⟨_,_,func82,Z,by decide⟩
theorem bod83:A0n Tryz.prog 83:=⟨_,_,func83,Z,by decide⟩
theorem bod85:A0n Tryz.prog 85:=⟨_,_,func85,Z,by decide⟩
theorem bod86:A0n Tryz.prog 86:=⟨_,_,func86,Z,by decide⟩
theorem bod87:A0n Tryz.prog 87:=⟨_,_,func87,Z,by decide⟩
theorem bod88:A0n Tryz.prog 88:=⟨_,_,func88,Z,by decide⟩
theorem bod90:A0n Tryz.prog 90:=⟨_,_,func90,Z,by decide⟩
theorem A9n:A0n Tryz.prog 91:=⟨_,_,func91,Z,by decide⟩
theorem bod92:A0n Tryz.prog 92:=⟨_,_,func92,Z,by decide⟩
theorem bod93:A0n Tryz.prog 93:=⟨_,_,func93,Z,by decide⟩
theorem bod94:A0n Tryz.prog 94:=⟨_,_,func94,Z,by decide⟩
theorem bod95:A0n Tryz.prog 95:=⟨_,_,func95,Z,by decide⟩
theorem bod96:A0n Tryz.prog 96:=⟨_,_,func96,Z,by decide⟩
theorem bod99:A0n Tryz.prog 99:=⟨_,_,func99,Z,by decide⟩
theorem bod100:A0n Tryz.prog 100:=⟨_,_,func100,Z,by decide⟩
theorem bod101:A0n Tryz.prog 101:=⟨_,_,func101,Z,by decide⟩
theorem bod102:A0n Tryz.prog 102:=⟨_,_,func102,Z,by decide⟩
theorem bod103:A0n Tryz.prog 103:=⟨_,_,func103,Z,by decide⟩
theorem bod104:A0n Tryz.prog 104:=⟨_,_,func104,Z,by decide⟩
theorem bod105:A0n Tryz.prog 105:=⟨_,_,func105,Z,by decide⟩
theorem bod106:A0n Tryz.prog 106:=⟨_,_,func106,Z,by decide⟩
theorem bod107:A0n Tryz.prog 107:=⟨_,_,func107,Z,by decide⟩
theorem bod108:A0n Tryz.prog 108:=⟨_,_,func108,Z,by decide⟩
theorem bod109:A0n Tryz.prog 109:=⟨_,_,func109,Z,by decide⟩
theorem bod110:A0n Tryz.prog 110:=⟨_,_,func110,Z,by decide⟩
theorem bod115:A0n Tryz.prog 115:=⟨_,_,func115,Z,by decide⟩
theorem bod116:A0n Tryz.prog 116:=⟨_,_,func116,Z,by decide⟩
theorem B3w:A0n Tryz.prog 117:=⟨_,_,func117,Z,by decide⟩
theorem bod118:A0n Tryz.prog 118:=⟨_,_,func118,Z,by decide⟩
theorem bod120:A0n Tryz.prog 120:=⟨_,_,func120,Z,by decide⟩
theorem bod123:A0n Tryz.prog 123:=⟨_,_,func123,Z,by decide⟩
theorem bod126:A0n Tryz.prog 126:=⟨_,_,func126,Z,by decide⟩
theorem bod129:A0n Tryz.prog 129:=⟨_,_,func129,Z,by decide⟩
theorem bod137:A0n Tryz.prog 137:=⟨_,_,func137,Z,by decide⟩
theorem A5i:A0n Tryz.prog 138:=⟨_,_,func138,Z,by decide⟩
theorem bod141:A0n Tryz.prog 141:=⟨_,_,func141,Z,by decide⟩
theorem bod142:A0n Tryz.prog 142:=⟨_,_,func142,Z,by decide⟩
theorem bod143:A0n Tryz.prog 143:=⟨_,_,func143,Z,by decide⟩
theorem A6b:A0n Tryz.prog 144:=⟨_,_,func144,Z,by decide⟩
theorem bod145:A0n Tryz.prog 145:=⟨_,_,func145,Z,by decide⟩
theorem B3v:A0n Tryz.prog 146:=⟨_,_,func146,Z,by decide⟩
theorem bod149:A0n Tryz.prog 149:=⟨_,_,func149,Z,by decide⟩
theorem bod171:A0n Tryz.prog 171:=⟨_,_,func171,Z,by decide⟩
theorem bod172:A0n Tryz.prog 172:=⟨_,_,func172,Z,by decide⟩
theorem bod173:A0n Tryz.prog 173:=⟨_,_,func173,Z,by decide⟩
theorem bod174:A0n Tryz.prog 174:=⟨_,_,func174,Z,by decide⟩
theorem bod175:A0n Tryz.prog 175:=⟨_,_,func175,Z,by decide⟩
theorem bod185:A0n Tryz.prog 185:=⟨_,_,func185,Z,by decide⟩
theorem bod186:A0n Tryz.prog 186:=⟨_,_,func186,Z,by decide⟩
theorem bod187:A0n Tryz.prog 187:=⟨_,_,func187,Z,by decide⟩
theorem bod188:A0n Tryz.prog 188:=⟨_,_,func188,Z,by decide⟩
theorem bod189:A0n Tryz.prog 189:=⟨_,_,func189,Z,by decide⟩
theorem bod190:A0n Tryz.prog 190:=⟨_,_,func190,Z,by decide⟩
theorem bod191:A0n Tryz.prog 191:=⟨_,_,func191,Z,by decide⟩
theorem bod192:A0n Tryz.prog 192:=⟨_,_,func192,Z,by decide⟩
theorem bod194:A0n Tryz.prog 194:=⟨_,_,func194,Z,by decide⟩
theorem bod195:A0n Tryz.prog 195:=⟨_,_,func195,Z,by decide⟩
theorem bod203:A0n Tryz.prog 203:=⟨_,_,func203,Z,by decide⟩
theorem bod204:A0n Tryz.prog 204:=⟨_,_,func204,Z,by decide⟩
theorem bod205:A0n Tryz.prog 205:=⟨_,_,func205,Z,by decide⟩
theorem bod206:A0n Tryz.prog 206:=⟨_,_,func206,Z,by decide⟩
theorem bod207:A0n Tryz.prog 207:=⟨_,_,func207,Z,by decide⟩
theorem bod208:A0n Tryz.prog 208:=⟨_,_,func208,Z,by decide⟩
theorem bod209:A0n Tryz.prog 209:=⟨_,_,func209,Z,by decide⟩
theorem bod226:A0n Tryz.prog 226:=⟨_,_,func226,Z,by decide⟩
theorem bod227:A0n Tryz.prog 227:=⟨_,_,func227,Z,by decide⟩
theorem bod228:A0n Tryz.prog 228:=⟨_,_,func228,Z,by decide⟩
theorem bod229:A0n Tryz.prog 229:=⟨_,_,func229,Z,by decide⟩
theorem bod230:A0n Tryz.prog 230:=⟨_,_,func230,Z,by decide⟩
theorem bod231:A0n Tryz.prog 231:=⟨_,_,func231,Z,by decide⟩
theorem bod232:A0n Tryz.prog 232:=⟨_,_,func232,Z,by decide⟩
end Go.Proofs.YtiolobmgibdfmaaGreat
end
section
namespace Go.Pal
open Go Go.Conc View
def RowAt(v:View)(a:Option Addr)(vals:List Value):Prop:=
 vals=[]∨∃b off p c e f,a=some ⟨b,off,none⟩∧v b=some (p,.cells c e f)∧off+vals.length≤c.size∧∀i x,vals[i]?=some x→c[off+i]?=some x
theorem RowAt.le{u v:View}{a:Option Addr}{vals:List Value}(h:RowAt u a vals)(hl:u.Le v):RowAt v a vals:=by
 rcases h with h|⟨b,off,p,c,e,f,h1,h2,h3,h4⟩
 ·exact .inl h
 ·exact .inr ⟨b,off,p,c,e,f,h1,hl _ _ h2,h3,h4⟩
def IntsAt(v:View)(s:Value)(xs:List Int):Prop:=∃a cap,s = .slice a xs.length cap∧RowAt v a (xs.map (.int .i64))
theorem RowAt.ints{v:View}{a:Option Addr}{xs:List Int}(h:RowAt v a (xs.map (.int .i64))){i:Nat}(hi:i<xs.length) :
  ∃b off p c e f,a=some ⟨b,off,none⟩∧v b=some (p,.cells c e f)∧∀j (hj:j<xs.length),c[off+j]?=some (.int .i64 xs[j]):=by
 rcases h with h|⟨b,off,p,c,e,f,h1,h2,h3,h4⟩
 ·have:xs=[]:=by simpa using h
  subst this;simp at hi
 ·exact⟨b,off,p,c,e,f,h1,h2,fun j hj=>h4 j _ (by simp [hj])⟩
theorem A5m(b off n:Nat):(⟨b,off,none⟩:Addr).add n=⟨b,off+n,none⟩:=by
 unfold Addr.add;split<;>simp_all
section
variable{P:Program}{mn:Who}(T:Tab P){rd:Option Nat}{n:Nat}{Q:Exit→St→View→Prop}{ds:List Deferred}{ρ:Regs}{β:A0j}{v:View}
 {ops:Array Oper}{i:Nat}{rest:List Nat}{l:List Oper}{d:Nat}{ty:TypeId}{pos:String}{af:Array Edge}{gu:Option (Nat×Bool)}
theorem R_elem{t e:TypeId}{y z:Operand}{b off len cap sz:Nat}{jz:Int}{k:IntKind}(j:Nat)(ho:ops[i]?=some ⟨some d,.indexAddr t y z,ty,pos,af,gu⟩)(hw:A0x ops gu ρ=some true)(hn:Nat.blt d n=true)
  (hy:ρ.val y=some (.slice (some ⟨b,off,none⟩) len cap))(hz:ρ.val z=some (.int k jz))(hj:jz=j)(ht:T.und t=some (.slice e))(hs:T.siz e=some sz)(h1:j<len)
  (h:XO P mn rd n ops rest Q ⟨ds,(d,.pointer (some ⟨b,off+j*sz,none⟩))::ρ,β⟩ v):XO P mn rd n ops (i::rest) Q ⟨ds,ρ,β⟩ v:=by
 subst hj
 refine R_index T ho hw hn hy hz ht hs oM oM ?_
 rw [A5m];simpa using h
theorem A2i{t e:TypeId}{y z:Operand}{b off len cap sz:Nat}{jz:Int}{k:IntKind}(j:Nat)(hw:A0x ops gu ρ=some true)(hn:Nat.blt d n=true)
  (hy:ρ.val y=some (.slice (some ⟨b,off,none⟩) len cap))(hz:ρ.val z=some (.int k jz))(hj:jz=j)(ht:T.und t=some (.slice e))(hs:T.siz e=some sz)(h1:j<len)
  (h:XL P mn n ops Q l ⟨ds,(d,.pointer (some ⟨b,off+j*sz,none⟩))::ρ,β⟩ v):XL P mn n ops Q (⟨some d,.indexAddr t y z,ty,pos,af,gu⟩::l) ⟨ds,ρ,β⟩ v:=by
 subst hj
 refine L_index T hw hn hy hz ht hs oM oM ?_
 rw [A5m];simpa using h
theorem A1b{t:TypeId}{td:TypeDesc}{c:Array Value}{off:Nat}{x:Value}(h1:T.und t=some td)(h2:T.siz t=some 1)(h3:aggOf td=false)(h:c[off]?=some x):A5t T t c off=some x:=by
 unfold A5t;rw [h1,h2];simp [h3,h]
end
def SeqQ(P:Program)(mn:Who)(rd:Option Nat)(n:Nat)(y:Code)(Q:Exit→St→View→Prop):Exit→St→View→Prop:=fun e σ v=>match e with | .normal=>XC P mn rd n y Q σ v|e=>Q e σ v
def BlockQ(id:Nat)(Q:Exit→St→View→Prop):Exit→St→View→Prop:=fun e σ v=>match e with | .normal=>Q .normal σ v | .exit j=>(bif Nat.beq j id then Q .normal σ v else Q (.exit j) σ v)|e=>Q e σ v
def LoopQ(again:St→View→Prop)(Q:Exit→St→View→Prop):Exit→St→View→Prop:=fun e σ v=>match e with | .normal=>again σ v|e=>Q e σ v
section
variable{P:Program}{mn:Who}{rd:Option Nat}{n:Nat}{Q:Exit→St→View→Prop}{σ:St}{v u:View}{ds:List Deferred}{ρ:Regs}{β:A0j}
theorem A5o{x y:Code}(h:XC P mn rd n x (SeqQ P mn rd n y Q) σ v):XC P mn rd n (.seq x y) Q σ v:=XC_seq (B4c h fun e σ u hq=>by cases e<;>exact hq)
theorem C_seqR{id:Nat}{ops:Array Oper}{dr:Bool}{y:Code}(h:XC P mn rd n (.region id ops dr) (SeqQ P mn rd n y Q) σ v):XC P mn rd n (.seq (.region id ops dr) y) Q σ v:=A5o h
theorem A7g{y:Code}(h:XC P mn rd n y Q σ v):SeqQ P mn rd n y Q .normal σ v:=h
theorem B2i{y:Code}{j:Nat}(h:Q (.exit j) σ v):SeqQ P mn rd n y Q (.exit j) σ v:=h
theorem Seq_ret{y:Code}(h:Q .ret σ v):SeqQ P mn rd n y Q .ret σ v:=h
theorem Seq_panic{y:Code}{ch:List PanicEntry}(h:Q (.panic ch) σ v):SeqQ P mn rd n y Q (.panic ch) σ v:=h
theorem B4g{id:Nat}{c:Code}(h:XC P mn rd n c (BlockQ id Q) σ v):XC P mn rd n (.block id c) Q σ v:=XC_block (B4c h fun e σ u hq=>by cases e<;>exact hq)
theorem A5c{id:Nat}(h:Q .normal σ v):BlockQ id Q .normal σ v:=h
theorem A8w{id j:Nat}(hj:Nat.beq j id=true)(h:Q .normal σ v):BlockQ id Q (.exit j) σ v:=by simp only [BlockQ,hj,cond_true];exact h
theorem B2l{id j:Nat}(hj:Nat.beq j id=false)(h:Q (.exit j) σ v):BlockQ id Q (.exit j) σ v:=by simp only [BlockQ,hj,cond_false];exact h
theorem B0y{id:Nat}(h:Q .ret σ v):BlockQ id Q .ret σ v:=h
theorem Block_panic{id:Nat}{ch:List PanicEntry}(h:Q (.panic ch) σ v):BlockQ id Q (.panic ch) σ v:=h
theorem A0c{again:St→View→Prop}(h:again σ v):LoopQ again Q .normal σ v:=h
theorem B0x{again:St→View→Prop}{j:Nat}(h:Q (.exit j) σ v):LoopQ again Q (.exit j) σ v:=h
theorem B2j{again:St→View→Prop}(h:Q .ret σ v):LoopQ again Q .ret σ v:=h
theorem Loop_panic{again:St→View→Prop}{ch:List PanicEntry}(h:Q (.panic ch) σ v):LoopQ again Q (.panic ch) σ v:=h
theorem A1o{body:Code}{α:Type}(st:α→St)(J:α→View→Prop)(m:α→Nat)(x:α)(hs:Sub (st x) σ)(hl:u.Le v)(hj:J x u)
  (round:∀x u,J x u→XC P mn rd n body (LoopQ (fun σ' u'=>∃y w,m y<m x∧Sub (st y) σ'∧w.Le u'∧J y w) Q) (st x) u):XC P mn rd n (.loop body) Q σ v:=
 XC_loop st J (measure m).wf x hs hl hj fun x u h=>B4c (round x u h) fun e σ u hq=>by cases e<;>exact hq
theorem A6f{x y:Code}(M:St→View→Prop)(h':∀τ u,M τ u→XC P mn rd n y Q τ u)(h:XC P mn rd n x (LoopQ (fun σ' u'=>∃τ u,M τ u∧Sub τ σ'∧u.Le u') Q) σ v):XC P mn rd n (.seq x y) Q σ v:=
 XC_seq_mid M (B4c h fun e σ u hq=>by cases e<;>exact hq) h'
def KP(n:Nat)(K:St→View→Prop)(a:Act)(w:View):Prop:=∃σ u,K σ u∧Fits n σ a∧Bok σ.β u∧(u.union (A0e σ.β)).Le w
def XOp(P:Program)(mn:Who)(rd:Option Nat)(n:Nat)(ops:Array Oper)(i:Nat)(Q:Exit→St→View→Prop)(K:St→View→Prop)(σ:St)(v:View):Prop:=
 ∀a,Fits n σ a→Bok σ.β v→∃o,ops[i]?=some o∧Region.wanted o (yielded ops a.tmps)=true∧(rd=none∨A3g o.op=false)∧SemX P (execOp a.eval o) (fun nx w=>match nx with
   | .value x=>KP n K (a.put o.dst x) w
   | .skip=>KP n K (a.put o.dst undef) w
   | .defer d=>rd=none∧KP n K ({a with defers:=d::a.defers }.put o.dst undef) w
   | .enter f args=>CallsX P mn f args (fun e w'=>match e with
     | .ret x=>KP n K (a.put o.dst x) w'
     | .pan ch=>Post n Q (.panic ch) a w') w
   | .round l f tmps assign body=>rd≠some 4294967295∧RoundX P mn l f tmps assign body (fun e w'=>match e with
     | .ret x=>KP n K (a.put o.dst x) w'
     | .pan ch=>Post n Q (.panic ch) a w') w
   | _=>False) (fun x w=>Post n Q (.panic [{v:=x,recovered:=false }]) a w) (v.union (A0e σ.β))
theorem XO_op{ops:Array Oper}{i:Nat}{rest:List Nat}(h:XOp P mn rd n ops i Q (fun σ u=>XO P mn rd n ops rest Q σ u) σ v):XO P mn rd n ops (i::rest) Q σ v:=fun a hf hb=>by
 obtain⟨o,ho,hw,hd,hs⟩:=h a hf hb
 have key:∀{a' w},KP n (fun σ u=>XO P mn rd n ops rest Q σ u) a' w→A5r P mn rd ops rest (Post n Q) a' w:=fun⟨σ',u,hK,hf',hb',hl⟩=>A4l (hK _ hf' hb') hl
 refine x_op ho hw hd (A2c _ (fun nx w hK=>?_) (fun x w hE=>hE) hs)
 cases nx with
 | value x=>exact key hK
 | skip=>exact key hK
 | defer d=>exact⟨hK.1,key hK.2⟩
 | enter f args=>exact CallsX.mono hK fun e w' hR=>⟨w',Le.refl _,by cases e<;>first|exact key hR|exact hR⟩
 | round l f tmps assign body=>
  intro Stop c cs hc hk
  exact hK.2 Stop c cs hc fun e w' hR=>hk e w' (by cases e<;>first|exact key hR|exact hR)
 | _=>exact hK.elim
theorem A2x{ops:Array Oper}{i:Nat}{o:Oper}{K:St→View→Prop}(ho:ops[i]?=some o)(hw:A5s ops o σ.ρ=some true)(hd:rd=none∨A3g o.op=false)(hn:A3j n o.dst=true)
  (h:∀ev:Operand→Value,(∀x y,σ.ρ.val x=some y→ev x=y)→Bok σ.β v→SemX P (execOp ev o) (fun nx w=>match nx with
    | .value x=>∃β' u,(Bok β' u∧(u.union (A0e β')).Le w)∧K ⟨σ.ds,putR o.dst x σ.ρ,β'⟩ u
    | .skip=>∃β' u,(Bok β' u∧(u.union (A0e β')).Le w)∧K ⟨σ.ds,putR o.dst undef σ.ρ,β'⟩ u
    | .defer d=>rd=none∧∃β' u,(Bok β' u∧(u.union (A0e β')).Le w)∧K ⟨d::σ.ds,putR o.dst undef σ.ρ,β'⟩ u
    | .enter f args=>CallsX P mn f args (fun e w'=>∃β' u,(Bok β' u∧(u.union (A0e β')).Le w')∧match e with
      | .ret x=>K ⟨σ.ds,putR o.dst x σ.ρ,β'⟩ u
      | .pan ch=>Q (.panic ch) ⟨σ.ds,σ.ρ,β'⟩ u) w
    | .round l f tmps assign body=>rd≠some 4294967295∧RoundX P mn l f tmps assign body (fun e w'=>∃β' u,(Bok β' u∧(u.union (A0e β')).Le w')∧match e with
      | .ret x=>K ⟨σ.ds,putR o.dst x σ.ρ,β'⟩ u
      | .pan ch=>Q (.panic ch) ⟨σ.ds,σ.ρ,β'⟩ u) w
    | _=>False) (fun x w=>∃β' u,(Bok β' u∧(u.union (A0e β')).Le w)∧Q (.panic [{v:=x,recovered:=false }]) ⟨σ.ds,σ.ρ,β'⟩ u) (v.union (A0e σ.β))):XOp P mn rd n ops i Q K σ v:=fun a hf hb=>by
 refine⟨o,ho,A0q hf hw,hd,A2c _ (fun nx w hK=>?_) (fun x w hE=>?_) (h a.eval (A0o hf) hb)⟩
 ·have fp:∀x β',Fits n ⟨σ.ds,putR o.dst x σ.ρ,β'⟩ (a.put o.dst x):=fun x β'=>⟨(A1h hf hn).size,(A1h hf hn).defers,(A1h (x:=x) hf hn).get⟩
  cases nx with
  | value x=>obtain⟨β',u,⟨h1,h2⟩,h3⟩:=hK;exact⟨_,u,h3,fp x β',h1,h2⟩
  | skip=>obtain⟨β',u,⟨h1,h2⟩,h3⟩:=hK;exact⟨_,u,h3,fp undef β',h1,h2⟩
  | defer d=>
   obtain⟨hrd,β',u,⟨h1,h2⟩,h3⟩:=hK
   refine⟨hrd,_,u,h3,?_,h1,h2⟩
   have:=A1h (σ:={σ with ds:=d::σ.ds }) (a:={a with defers:=d::a.defers }) (x:=undef) ⟨hf.size,by simp [hf.defers],hf.get⟩ hn
   exact⟨this.size,this.defers,this.get⟩
  | enter f args=>
   refine CallsX.mono hK fun e w' hR=>⟨w',Le.refl _,?_⟩
   obtain⟨β',u,⟨h1,h2⟩,h3⟩:=hR
   cases e with
   | ret x=>exact⟨_,u,h3,fp x β',h1,h2⟩
   | pan ch=>exact⟨_,u,h3,⟨hf.size,hf.defers,hf.get⟩,h1,h2⟩
  | round l f tmps assign body=>
   refine⟨hK.1,?_⟩
   intro Stop c cs hc hk
   refine hK.2 Stop c cs hc fun e w' hR=>hk e w' ?_
   obtain⟨β',u,⟨h1,h2⟩,h3⟩:=hR
   cases e with
   | ret x=>exact⟨_,u,h3,fp x β',h1,h2⟩
   | pan ch=>exact⟨_,u,h3,⟨hf.size,hf.defers,hf.get⟩,h1,h2⟩
  | _=>exact hK.elim
 ·obtain⟨β',u,⟨h1,h2⟩,h3⟩:=hE
  exact⟨_,u,h3,⟨hf.size,hf.defers,hf.get⟩,h1,h2⟩
end
theorem SetB.split{b:Nat}{c':Array Value}{β β':A0j}(h:SetB b c' β β'):∃l r c t,β=l++(b,c,t)::r∧β'=l++(b,c',t)::r:=by
 induction h with
 | head=>exact⟨[],_,_,_,rfl,rfl⟩
 | tail _ ih=>obtain⟨l,r,c,t,rfl,rfl⟩:=ih;exact⟨_::l,r,c,t,rfl,rfl⟩
theorem bview_mid{b:Nat}{c:Array Value}{t:TypeId}{l r:A0j}(hn:((l++(b,c,t)::r).map (·.1)).Nodup)(c':Array Value):A0e (l++(b,c',t)::r)=(A0e (l++(b,c,t)::r)).set b true (.cells c' t (0,0)):=by
 funext j
 have hn':((l++(b,c',t)::r).map (·.1)).Nodup:=by simpa using hn
 unfold View.set
 by_cases hj:j=b
 ·subst hj;rw [if_pos rfl];exact A3p hn' sM
 ·rw [if_neg hj]
  induction l with
  | nil=>simp [A0e,hj]
  | cons p l ih=>
   obtain⟨i,d,t'⟩:=p
   simp only [List.cons_append,A0e]
   by_cases hi:j=i
   ·simp [hi]
   ·simp only [hi,if_false]
    exact ih (by simp only [List.cons_append,List.map_cons,List.nodup_cons]at hn;exact hn.2) (by simp only [List.cons_append,List.map_cons,List.nodup_cons]at hn';exact hn'.2)
theorem bok_keys{β β':A0j}{v:View}(hb:Bok β v)(h:β'.map (·.1)=β.map (·.1)):Bok β' v:=by
 refine⟨h ▸ hb.nodup,fun b=>?_⟩
 rcases hb.disj b with e|e
 ·exact .inl e
 ·right
  refine A8r fun hm=>?_
  rw [h]at hm
  obtain⟨⟨i,c,t⟩,hp,rfl⟩:=List.mem_map.1 hm
  rw [A3p hb.nodup hp]at e
  cases e
theorem B2q{v F:View}{b:Nat}{p:Bool}{o:Obj}(h:v b=none):v.union (F.set b p o)=(v.union F).set b p o:=by
 funext j
 unfold View.union View.set
 by_cases hj:j=b
 ·subst hj;simp [h]
 ·simp [hj]
theorem B0c{b:Nat}{c':Array Value}{β β':A0j}{v:View}(hb:Bok β v)(h:SetB b c' β β'):Bok β' v∧∃c t,InB b c t β∧v.union (A0e β')=(v.union (A0e β)).set b true (.cells c' t (0,0)):=by
 refine⟨bok_keys hb h.keys,?_⟩
 obtain⟨l,r,c,t,rfl,rfl⟩:=h.split
 refine⟨c,t,?_,?_⟩
 ·clear hb h
  induction l with
  | nil=>exact .head
  | cons p l ih=>exact .tail ih
 ·rw [bview_mid hb.nodup c',B2q]
  exact(hb.disj b).resolve_right (by rw [A3p hb.nodup (by simp:(b,c,t)∈_)];simp)
theorem A5q{l:List Value}:∀{c:Array Value} {off:Nat},(A1l c off l).size=c.size:=by
 induction l with
 | nil=>intros;rfl
 | cons x r ih=>intro c off;simp [A1l,ih]
theorem A8h{l:List Value}:∀{c:Array Value} {off i:Nat},off+l.length≤c.size→(A1l c off l)[i]?=if off≤i∧i<off+l.length then l[i-off]? else c[i]?:=by
 induction l with
 | nil=>intro c off i h;simp only [A1l,List.length_nil];rw [if_neg oM]
 | cons x r ih=>
  intro c off i h
  simp only [List.length_cons]at h
  simp only [A1l,List.length_cons]
  rw [ih (by simp;omega)]
  by_cases h1:off+1≤i∧i<off+1+r.length
  ·rw [if_pos h1,if_pos oM,show i-off=(i-(off+1))+1 by omega,List.getElem?_cons_succ]
  ·rw [if_neg h1]
   by_cases h2:i=off
   ·subst h2
    rw [if_pos oM,Array.getElem?_setIfInBounds_self,if_pos oM]
    simp
   ·rw [if_neg oM,Array.getElem?_setIfInBounds_ne oM]
section
variable{P:Program}{mn:Who}(T:Tab P){rd:Option Nat}{n:Nat}{Q:Exit→St→View→Prop}{ds:List Deferred}{ρ:Regs}{β:A0j}{v:View}
 {ops:Array Oper}{i:Nat}{K:St→View→Prop}
theorem A5j{K:Unit→View→Prop}{E:Value→View→Prop}{b off:Nat}{e:TypeId}:∀{l:List Value} {w:View} {c:Array Value} {j:Nat},(l.all A3z=true)→w b=some (true,.cells c e (0,0))→off+j+l.length≤c.size→
  K () (w.set b true (.cells (A1l c (off+j) l) e (0,0)))→SemX P (storeCells ⟨b,off,none⟩ l j) K E w
 | [],w,c,j,_,hw,_,hk=>by
  simp only [storeCells,A0m]
  have:w.set b true (.cells c e (0,0))=w:=by
   funext i;unfold View.set;split
   ·rename_i h;subst h;exact hw.symm
   ·rfl
  simp only [A1l]at hk
  rw [this]at hk
  exact hk
 | x::l,w,c,j,ha,hw,hl,hk=>by
  simp only [List.all_cons,Bool.and_eq_true]at ha
  simp only [List.length_cons]at hl
  simp only [storeCells,A0d]
  rw [show store ((⟨b,off,none⟩:Addr).add j) x=Sem.store .plain ((⟨b,off,none⟩:Addr).add j) x (.pure ())from Z,A5m]
  refine⟨Z,ha.1,c,e,(0,0),hw,Z,(by simp only;omega),by simp only [B0m,Bool.and_eq_false_imp,decide_eq_true_eq,decide_eq_false_iff_not];omega,?_⟩
  rw [sx_pure']
  refine A5j (e:=e) (c:=c.setIfInBounds (off+j) x) (j:=j+1) ha.2 (by simp [View.set]) (by simp;omega) ?_
  have:(w.set b true (.cells (c.setIfInBounds (off+j) x) e (0,0))).set b true (.cells (A1l (c.setIfInBounds (off+j) x) (off+(j+1)) l) e (0,0))=w.set b true (.cells (A1l c (off+j) (x::l)) e (0,0)):=by
   funext i;unfold View.set;split<;>simp_all [A1l,Nat.add_assoc]
  show K () ((w.set b true (.cells (c.setIfInBounds (off+j) x) e (0,0))).set b true _)
  rw [this]
  exact hk
theorem Op_storeB{o:Oper}{t t':TypeId}{y z:Operand}{b off k:Nat}{c:Array Value}{x:Value}{β':A0j}(ho:ops[i]?=some o)(hw:A5s ops o ρ=some true)(hop:o.op = .store t y z)(hdst:o.dst=none)
  (hy:ρ.val y=some (.pointer (some ⟨b,off,none⟩)))(hz:ρ.val z=some x)(ht:T.siz t=some k)(hk:x.cells.size=k)(hone:x.cells.toList.all A3z=true)(hb:InB b c t' β)(hoff:Nat.ble (off+k) c.size=true)(hset:SetB b (A1l c off x.cells.toList) β β')
  (h:K ⟨ds,ρ,β'⟩ v):XOp P mn rd n ops i Q K ⟨ds,ρ,β⟩ v:=by
 refine A2x ho hw (.inr (by rw [hop];rfl)) (by rw [hdst];rfl) fun ev hev hbk=>?_
 unfold execOp
 simp only [hop,Instr.storeAt,Instr.sureAddr,storeVar,hev _ _ hy,hev _ _ hz,A0d,A0m,A5f T ht]
 rw [if_neg (by simp [hk])]
 obtain⟨hbk',c₀,t₀,hin,hv⟩:=B0c hbk hset
 have hcc:c₀=c∧t₀=t':=by
  have h1:=A1f (v:=v) hbk hin
  have h2:=A1f (v:=v) hbk hb
  rw [h1]at h2
  simp only [Option.some.injEq,Prod.mk.injEq,Obj.cells.injEq]at h2
  exact⟨h2.2.1,h2.2.2.1⟩
 obtain⟨rfl,rfl⟩:=hcc
 refine A5j (off:=off) (c:=c₀) (e:=t₀) (j:=0) hone (A1f hbk hin) (by have:=Nat.le_of_ble_eq_true hoff;simp;omega) ?_
 refine⟨β',v,⟨hbk',?_⟩,by rw [hdst];exact h⟩
 rw [hv]
 exact Le.refl _
def CallsB(P:Program)(mn:Who)(f:FuncId)(args:Array Value)(R:End→A0j→Prop)(β:A0j)(v:View):Prop:=
 Bok β v→CallsX P mn f args (fun e w=>∃β',R e β'∧Bok β' v∧(v.union (A0e β')).Le w) (v.union (A0e β))
theorem A8s{β β':A0j}(hp:β.Perm β')(hb:Bok β v):Bok β' v∧A0e β'=A0e β:=by
 have hn:(β'.map (·.1)).Nodup:=(hp.map _).nodup_iff.1 hb.nodup
 have he:A0e β'=A0e β:=by
  funext b
  cases h:A0e β b with
  | none=>
   cases h':A0e β' b with
   | none=>rfl
   | some x=>
    have hm:=A5a h'
    obtain⟨⟨j,c,t⟩,hq,rfl⟩:=List.mem_map.1 hm
    rw [A3p hb.nodup (hp.mem_iff.2 hq)]at h
    cases h
  | some x=>
   have hm:=A5a h
   obtain⟨⟨j,c,t⟩,hq,rfl⟩:=List.mem_map.1 hm
   rw [A3p hb.nodup hq]at h
   rw [←h]
   exact A3p hn (hp.mem_iff.1 hq)
 exact⟨⟨hn,fun b=>(hb.disj b).imp id fun e=>by rw [he];exact e⟩,he⟩
theorem A6k{l r:A0j}:A0e (l++r)=(A0e l).union (A0e r):=by
 induction l with
 | nil=>funext b;simp [A0e,View.union]
 | cons p l ih=>
  obtain⟨i,c,t⟩:=p
  funext b
  simp only [List.cons_append,A0e,View.union]
  split
  ·rfl
  ·rw [ih];rfl
theorem bok_append{l r:A0j}:Bok (l++r) v↔Bok r v∧Bok l (v.union (A0e r)):=by
 constructor
 ·intro h
  have hn:=h.nodup
  rw [List.map_append]at hn
  obtain⟨h1,h2,h3⟩:=List.nodup_append.1 hn
  refine⟨⟨h2,fun b=>(h.disj b).imp id fun e=>?_⟩,⟨h1,fun b=>?_⟩⟩
  ·rw [A6k]at e
   unfold View.union at e
   split at e
   ·cases e
   ·exact e
  ·cases hl:A0e l b with
   | none=>exact .inr rfl
   | some x=>
    left
    have hm:=A5a hl
    unfold View.union
    have hv:v b=none:=(h.disj b).resolve_right (by rw [A6k];unfold View.union;rw [hl];simp)
    rw [hv]
    exact A8r fun hm'=>h3 _ hm _ hm' Z
 ·rintro⟨h1,h2⟩
  have hdis:∀b,b∈l.map (·.1)→v b=none∧b∉r.map (·.1):=fun b hm=>by
   obtain⟨⟨j,c,t⟩,hq,rfl⟩:=List.mem_map.1 hm
   have:=(h2.disj j).resolve_right (by rw [A3p h2.nodup hq];simp)
   unfold View.union at this
   split at this
   ·cases this
   ·rename_i hv
    refine⟨hv,fun hm'=>?_⟩
    obtain⟨⟨j',c',t'⟩,hq',rfl⟩:=List.mem_map.1 hm'
    rw [A3p h1.nodup hq']at this
    cases this
  refine⟨by rw [List.map_append];exact List.nodup_append.2 ⟨h2.nodup,h1.nodup,fun a ha b hb e=>(hdis a ha).2 (e ▸ hb)⟩,fun b=>?_⟩
  cases hl:A0e l b with
  | some x=>exact .inl (hdis b (A5a hl)).1
  | none=>exact(h1.disj b).imp id fun e=>by rw [A6k];unfold View.union;rw [hl];exact e
theorem A1m{l r:A0j}(h:Bok (l++r) v):v.union (A0e (l++r))=(v.union (A0e r)).union (A0e l):=by
 funext b
 obtain⟨h1,h2⟩:=bok_append.1 h
 rw [A6k]
 unfold View.union
 cases hv:v b with
 | some x=>rfl
 | none=>
  cases hl:A0e l b with
  | none=>cases hr:A0e r b<;>simp [hr]
  | some x=>
   have:=(h2.disj b).resolve_right (by rw [hl];simp)
   unfold View.union at this
   rw [hv]at this
   simp only at this⊢
   rw [this]
theorem A4u{l m:A0j}(h:∀p,cnt p l=cnt p m):l.Perm m:=by
 obtain⟨r,hr⟩:=B1d (τ:=l) (β:=m) fun p=>Nat.le_of_eq (h p)
 have:r=[]:=by
  have hlen:=fun q=>h q
  apply Classical.byContradiction
  intro hne
  obtain⟨q,hq⟩:=List.exists_mem_of_ne_nil r hne
  have h1:∀{a b:A0j},a.Perm b→cnt q a=cnt q b:=fun hp=>by
   induction hp with
   | nil=>rfl
   | cons x _ ih=>simp only [cnt,ih]
   | swap x y l=>simp only [cnt];omega
   | trans _ _ ih1 ih2=>exact ih1.trans ih2
  have h2:=h1 hr
  rw [A2g]at h2
  have h3:=cnt_pos.2 hq
  have:=hlen q
  omega
 subst this
 simpa using hr.symm
theorem Op_callB{o:Oper}{f:Operand}{args:Array Operand}{ats:Array TypeId}{k:FuncId}{first captured:Array Value}{xs:List Value}{R:End→A0j→Prop}(bin rest:A0j)(ho:ops[i]?=some o)(hw:A5s ops o ρ=some true)(hn:A3j n o.dst=true)
  (hop:o.op = .call {callee:=.value f,args:=args,argTypes:=ats })(hf:ρ.val f=some (.func (.func k) first captured))(hxs:A3q ρ.val args.toList=some xs)(hk:A0n P k)
  (hsplit:∀p,cnt p β=cnt p (bin++rest))(hc:CallsB P mn k (first++xs.toArray++captured) R bin (v.union (A0e rest)))
  (hr:∀x β',R (.ret x) β'→K ⟨ds,putR o.dst x ρ,β'++rest⟩ v)(hp:∀ch β',R (.pan ch) β'→Q (.panic ch) ⟨ds,ρ,β'++rest⟩ v):XOp P mn rd n ops i Q K ⟨ds,ρ,β⟩ v:=by
 refine A2x ho hw (.inr (by rw [hop];rfl)) hn fun ev hev hbk=>?_
 have ha:args.map ev=xs.toArray:=Array.toList_inj.1 (by simpa using A3h hev hxs)
 unfold execOp
 simp only [hop,resolve,Deferred.ofValue,hev _ _ hf,ha,A0d,A0m,invoke]
 obtain⟨hb1,he⟩:=A8s (A4u hsplit) hbk
 obtain⟨hb2,hb3⟩:=bok_append.1 hb1
 have hc':=hc hb3
 rw [←A1m hb1,he]at hc'
 refine A7m hk (CallsX.mono hc' fun e w hR=>⟨w,Le.refl _,?_⟩)
 obtain⟨β',hR,hb',hl⟩:=hR
 have hb4:Bok (β'++rest) v:=bok_append.2 ⟨hb2,hb'⟩
 refine⟨β'++rest,v,⟨hb4,(A1m hb4) ▸ hl⟩,?_⟩
 cases e with
 | ret x=>exact hr x β' hR
 | pan ch=>exact hp ch β' hR
theorem XC_retire{c:Code}{β1 β2:A0j}(hp:∀p,cnt p β=cnt p (β1++β2))(h:Bok β1 v→XC P mn rd n c Q ⟨ds,ρ,β2⟩ (v.union (A0e β1))):XC P mn rd n c Q ⟨ds,ρ,β⟩ v:=fun a hf hb=>by
 obtain⟨hb1,he⟩:=A8s (A4u (l:=β) (m:=β2++β1) fun p=>by rw [hp p,A2g,A2g];omega) hb
 obtain⟨hb2,hb3⟩:=bok_append.1 hb1
 rw [←he,A1m hb1]
 exact h hb2 a ⟨hf.size,hf.defers,hf.get⟩ hb3
theorem XO_retire{l:List Nat}{β1 β2:A0j}(hp:∀p,cnt p β=cnt p (β1++β2))(h:Bok β1 v→XO P mn rd n ops l Q ⟨ds,ρ,β2⟩ (v.union (A0e β1))):XO P mn rd n ops l Q ⟨ds,ρ,β⟩ v:=fun a hf hb=>by
 obtain⟨hb1,he⟩:=A8s (A4u (l:=β) (m:=β2++β1) fun p=>by rw [hp p,A2g,A2g];omega) hb
 obtain⟨hb2,hb3⟩:=bok_append.1 hb1
 rw [←he,A1m hb1]
 exact h hb2 a ⟨hf.size,hf.defers,hf.get⟩ hb3
inductive ResL{P:Program}(T:Tab P)(ρ:Regs)(β:A0j):List ResultVar→List Value→Prop
 | nil:ResL T ρ β [] []
 | tmp {t:Tmp} {r:List ResultVar} {x:Value} {xs:List Value}:ρ.get t=some x→ResL T ρ β r xs→ResL T ρ β (.tmp t::r) (x::xs)
 | cell {a:Tmp} {t t':TypeId} {r:List ResultVar} {b off:Nat} {c:Array Value} {x:Value} {xs:List Value}:ρ.get a=some (.pointer (some ⟨b,off,none⟩))→InB b c t' β→A5t T t c off=some x→ResL T ρ β r xs→ResL T ρ β (.cell a t::r) (x::xs)
def Back(v:View)(β':A0j)(u:View)(β:A0j):Prop:=Bok β u→Bok β' v∧(v.union (A0e β')).Le (u.union (A0e β))
theorem Back.here{β' β:A0j}(h:Subm β' β):Back v β' v β:=fun hb=>by
 obtain⟨h1,h2⟩:=Sub.bok (τ:=⟨[],[],β'⟩) (σ:=⟨[],[],β⟩) ⟨rfl,trivial,h⟩ (Le.refl v) hb
 exact⟨h1,h2⟩
theorem Back.retired{β1 β' β:A0j}{u:View}(h1:Bok β1 v)(h:Back (v.union (A0e β1)) β' u β):Back v (β'++β1) u β:=fun hb=>by
 obtain⟨h2,h3⟩:=h hb
 have:=bok_append.2 ⟨h1,h2⟩
 exact⟨this,(A1m this) ▸ h3⟩
theorem Back.le{β' β:A0j}{u:View}(hl:v.Le u)(h:Subm β' β):Back v β' u β:=fun hb=>by
 obtain⟨h1,h2⟩:=Sub.bok (τ:=⟨[],[],β'⟩) (σ:=⟨[],[],β⟩) ⟨rfl,trivial,h⟩ hl hb
 exact⟨h1,h2⟩
def FnB(fn:Func)(R:End→A0j→Prop)(v:View):Exit→St→View→Prop
 | .normal,σ,u | .ret,σ,u=>σ.ds=[]∧∃xs β',ResL T σ.ρ σ.β fn.results.toList xs∧R (.ret (A5l xs)) β'∧Back v β' u σ.β
 | .panic ch,σ,u=>σ.ds=[]∧∃β',R (.pan ch) β'∧Back v β' u σ.β
 | _,_,_=>False
theorem A0l{fn:Func}{R:End→A0j→Prop}{u:View}{xs:List Value}(β':A0j)(h1:ResL T ρ β fn.results.toList xs)(h3:Back v β' u β)(h2:R (.ret (A5l xs)) β'):FnB T fn R v .ret ⟨[],ρ,β⟩ u:=⟨Z,xs,β',h1,h2,h3⟩
theorem A1t{fn:Func}{R:End→A0j→Prop}{u:View}{xs:List Value}(β':A0j)(h1:ResL T ρ β fn.results.toList xs)(h3:Back v β' u β)(h2:R (.ret (A5l xs)) β'):FnB T fn R v .normal ⟨[],ρ,β⟩ u:=⟨Z,xs,β',h1,h2,h3⟩
theorem A1k{fn:Func}{R:End→A0j→Prop}{u:View}{ch:List PanicEntry}(β':A0j)(h3:Back v β' u β)(h2:R (.pan ch) β'):FnB T fn R v (.panic ch) ⟨[],ρ,β⟩ u:=⟨Z,β',h2,h3⟩
theorem sx_resL{E:Value→View→Prop}{a:Act}{w:View}(hf:Fits n ⟨ds,ρ,β⟩ a)(hb:Bok β v)(hl:(v.union (A0e β)).Le w){rs:List ResultVar}{xs:List Value}(h:ResL T ρ β rs xs):∀{K:List Value→View→Prop},K xs w→
  SemX P (rs.mapM (fun(r:ResultVar)=>(match r with
   | .tmp t=>pure (a.tmps.getD t undef)
   | .cell c t=>do loadVar t (←asAddr (a.tmps.getD c undef)):Sem Value))) K E w:=by
 induction h with
 | nil=>intro K hk;simpa [A0m]using hk
 | @tmp t r x xs h1 _ ih=>
  intro K hk
  rw [List.mapM_cons,A0d,A0m,A0d]
  have:a.tmps.getD t undef=x:=by rw [Array.getD_eq_getD_getElem?,hf.get t x h1];rfl
  rw [this]
  exact ih hk
 | @cell c t t' r b off cs x xs h1 h2 h3 _ ih=>
  intro K hk
  have hg:a.tmps.getD c undef = .pointer (some ⟨b,off,none⟩):=by rw [Array.getD_eq_getD_getElem?,hf.get c _ h1];rfl
  rw [List.mapM_cons,A0d]
  simp only [hg,asAddr,A0d,A0m]
  refine A4n T (hl _ _ (A1f hb h2)) h3 ?_
  exact ih hk
theorem A0f{f:FuncId}{fn:Func}{c:Code}{args:List Value}{R:End→A0j→Prop}(hf:P.funcs[f]?=some fn)(hb:fn.body=some c)(hn:args.length≤fn.ntmps)
  (h:XC P mn none fn.ntmps c (FnB T fn R v) ⟨[],A2z 0 args,β⟩ v):CallsB P mn f args.toArray R β v:=fun hbk=>by
 refine A9b hf hb (A3u (h _ ⟨?_,Z,?_⟩ hbk) ?_)
 ·simp;omega
 ·have key:∀(l:List Value) (i t:Nat) (x:Value),(A2z i l).get t=some x→i≤t∧l[t-i]?=some x:=by
   intro l
   induction l with
   | nil=>intro i t x h;simp [A2z,Regs.get]at h
   | cons y l ih=>
    intro i t x h
    simp only [A2z,Regs.get]at h
    cases hb:Nat.beq i t with
    | true=>
     rw [hb]at h
     have:=Nat.eq_of_beq_eq_true hb
     subst this
     simp only [cond_true]at h
     exact⟨Nat.le_refl _,by simpa using h⟩
    | false=>
     rw [hb]at h
     obtain⟨h1,h2⟩:=ih (i+1) t x h
     refine⟨oM,?_⟩
     rw [show t-i=(t-(i+1))+1 by omega]
     simpa using h2
  intro t x hx
  obtain⟨_,h2⟩:=key args 0 t x hx
  simp only [Nat.sub_zero]at h2
  obtain⟨hlt,_⟩:=List.getElem?_eq_some_iff.1 h2
  rw [Array.getElem?_append_left (by simpa using hlt)]
  simpa using h2
 ·rintro e a w ⟨⟨ds',ρ',β'⟩,u,hq,hf',hb',hl⟩
  refine⟨w,Le.refl _,?_⟩
  have hret:∀xs β'',ResL T ρ' β' fn.results.toList xs→R (.ret (A5l xs)) β''→Back v β'' u β'→SemX P (results fn a.tmps) (fun x v'=>∃β',R (.ret x) β'∧Bok β' v∧(v.union (A0e β')).Le v') (fun _ _=>False) w:=by
   intro xs β'' hr hR hB
   obtain⟨h1,h2⟩:=hB hb'
   unfold results
   rw [A0d,Array.mapM_eq_mapM_toList,sx_map]
   refine sx_resL T hf' hb' hl hr ?_
   rw [A0m]
   refine⟨β'',?_,h1,h2.trans hl⟩
   match xs,hR with
   | [],hR=>simpa [A5l]using hR
   | [x],hR=>simpa [A5l]using hR
   | x::y::r,hR=>simpa [A5l]using hR
  cases e with
  | normal=>obtain⟨h1,xs,β'',h2,h3,h4⟩:=hq;exact⟨hf'.defers.trans h1,hret xs β'' h2 h3 h4⟩
  | ret=>obtain⟨h1,xs,β'',h2,h3,h4⟩:=hq;exact⟨hf'.defers.trans h1,hret xs β'' h2 h3 h4⟩
  | panic ch=>obtain⟨h1,β'',h2,h3⟩:=hq;obtain⟨h4,h5⟩:=h3 hb';exact⟨hf'.defers.trans h1,β'',h2,h4,h5.trans hl⟩
  | exit id=>exact hq.elim
  | goto l=>exact hq.elim
  | outgrown=>exact hq.elim
end
attribute [irreducible] SeqQ BlockQ LoopQ FnB
end Go.Pal
end
