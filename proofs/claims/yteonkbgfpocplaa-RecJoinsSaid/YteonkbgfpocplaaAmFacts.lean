/- What the types of this program are. -/
import Derived.Test.YteonkbgfpocplaaProg
import Derived.Test.YteonkbgfpocplaaAm14
import Derived.KernelRfl
namespace Go.Proofs.Yteonkbgfpocplaa.AmF
open Go.AM
theorem ti_Fnc498c1eb : tyI Try.prog 1 = some ⟨.func #[] #[] false, 1, 8, .nilFunc⟩ := tyI_of (by kernel_rfl) Try.underlying1
theorem ti_int64 : tyI Try.prog 2 = some ⟨.int .i64, 1, 8, .int .i64 0⟩ := tyI_of (by kernel_rfl) Try.underlying2
theorem ti_int : tyI Try.prog 3 = some ⟨.int .i64, 1, 8, .int .i64 0⟩ := tyI_of (by kernel_rfl) Try.underlying3
theorem ti_bool : tyI Try.prog 4 = some ⟨.bool, 1, 1, .bool false⟩ := tyI_of (by kernel_rfl) Try.underlying4
theorem ti_uint8 : tyI Try.prog 5 = some ⟨.int .u8, 1, 1, .int .u8 0⟩ := tyI_of (by kernel_rfl) Try.underlying5
theorem ti_internal_abi_BoundsErrorCode : tyI Try.prog 6 = some ⟨.int .u8, 1, 1, .int .u8 0⟩ := tyI_of (by kernel_rfl) Try.underlying6
theorem ti_S0b53c675 : tyI Try.prog 7 = some ⟨.struct #[⟨ "x", 2, 0, false, "", "runtime", 0⟩, ⟨ "y", 3, 1, false, "", "runtime", 8⟩, ⟨ "signed", 4, 2, false, "", "runtime", 16⟩, ⟨ "code", 6, 3, false, "", "runtime", 17⟩], 4, 24, .agg #[.int .i64 0, .int .i64 0, .bool false, .int .u8 0]⟩ := tyI_of (by kernel_rfl) Try.underlying7
theorem ti_runtime_boundsError : tyI Try.prog 8 = some ⟨.struct #[⟨ "x", 2, 0, false, "", "runtime", 0⟩, ⟨ "y", 3, 1, false, "", "runtime", 8⟩, ⟨ "signed", 4, 2, false, "", "runtime", 16⟩, ⟨ "code", 6, 3, false, "", "runtime", 17⟩], 4, 24, .agg #[.int .i64 0, .int .i64 0, .bool false, .int .u8 0]⟩ := tyI_of (by kernel_rfl) Try.underlying8
theorem ti_string : tyI Try.prog 9 = some ⟨.string, 1, 16, .string ⟨#[]⟩⟩ := tyI_of (by kernel_rfl) Try.underlying9
theorem ti_runtime_errorString : tyI Try.prog 10 = some ⟨.string, 1, 16, .string ⟨#[]⟩⟩ := tyI_of (by kernel_rfl) Try.underlying10
theorem ti_runtime_plainError : tyI Try.prog 11 = some ⟨.string, 1, 16, .string ⟨#[]⟩⟩ := tyI_of (by kernel_rfl) Try.underlying11
theorem ti_uintptr : tyI Try.prog 12 = some ⟨.int .u64, 1, 8, .int .u64 0⟩ := tyI_of (by kernel_rfl) Try.underlying12
theorem ti_S74433d11 : tyI Try.prog 13 = some ⟨.struct #[⟨ "msg", 9, 0, false, "", "runtime", 0⟩, ⟨ "addr", 12, 1, false, "", "runtime", 16⟩], 2, 24, .agg #[.string ⟨#[]⟩, .int .u64 0]⟩ := tyI_of (by kernel_rfl) Try.underlying13
theorem ti_runtime_errorAddressString : tyI Try.prog 14 = some ⟨.struct #[⟨ "msg", 9, 0, false, "", "runtime", 0⟩, ⟨ "addr", 12, 1, false, "", "runtime", 16⟩], 2, 24, .agg #[.string ⟨#[]⟩, .int .u64 0]⟩ := tyI_of (by kernel_rfl) Try.underlying14
theorem ti_Pruntime_TypeAssertionError : tyI Try.prog 15 = some ⟨.pointer 85, 1, 8, .pointer none⟩ := tyI_of (by kernel_rfl) Try.underlying15
theorem ti_Pruntime_PanicNilError : tyI Try.prog 16 = some ⟨.pointer 88, 1, 8, .pointer none⟩ := tyI_of (by kernel_rfl) Try.underlying16
theorem ti_Pinternal_abi_Type : tyI Try.prog 17 = some ⟨.pointer 96, 1, 8, .pointer none⟩ := tyI_of (by kernel_rfl) Try.underlying17
theorem ti_S12c68beb : tyI Try.prog 18 = some ⟨.struct #[⟨ "typ", 17, 0, false, "", "internal/runtime/maps", 0⟩], 1, 8, .agg #[.pointer none]⟩ := tyI_of (by kernel_rfl) Try.underlying18
theorem ti_internal_runtime_maps_unhashableTypeError : tyI Try.prog 19 = some ⟨.struct #[⟨ "typ", 17, 0, false, "", "internal/runtime/maps", 0⟩], 1, 8, .agg #[.pointer none]⟩ := tyI_of (by kernel_rfl) Try.underlying19
theorem ti_int32 : tyI Try.prog 21 = some ⟨.int .i32, 1, 4, .int .i32 0⟩ := tyI_of (by kernel_rfl) Try.underlying21
theorem ti_Luint8 : tyI Try.prog 22 = some ⟨.slice 5, 1, 24, .slice none 0 0⟩ := tyI_of (by kernel_rfl) Try.underlying22
theorem ti_Fn8dec0830 : tyI Try.prog 23 = some ⟨.func #[] #[4] false, 1, 8, .nilFunc⟩ := tyI_of (by kernel_rfl) Try.underlying23
theorem ti_S53bae53a : tyI Try.prog 24 = some ⟨.struct #[⟨ "Kind", 3, 0, false, "", "", 0⟩, ⟨ "Epoch", 3, 1, false, "", "", 8⟩, ⟨ "Seq", 3, 2, false, "", "", 16⟩, ⟨ "Zone", 3, 3, false, "", "", 24⟩, ⟨ "Gen", 3, 4, false, "", "", 32⟩, ⟨ "Slot", 3, 5, false, "", "", 40⟩, ⟨ "W", 3, 6, false, "", "", 48⟩, ⟨ "Member", 3, 7, false, "", "", 56⟩, ⟨ "Status", 3, 8, false, "", "", 64⟩, ⟨ "Body", 22, 9, false, "", "", 72⟩], 10, 96, .agg #[.int .i64 0, .int .i64 0, .int .i64 0, .int .i64 0, .int .i64 0, .int .i64 0, .int .i64 0, .int .i64 0, .int .i64 0, .slice none 0 0]⟩ := tyI_of (by kernel_rfl) Try.underlying24
theorem ti_api_Rec : tyI Try.prog 25 = some ⟨.struct #[⟨ "Kind", 3, 0, false, "", "", 0⟩, ⟨ "Epoch", 3, 1, false, "", "", 8⟩, ⟨ "Seq", 3, 2, false, "", "", 16⟩, ⟨ "Zone", 3, 3, false, "", "", 24⟩, ⟨ "Gen", 3, 4, false, "", "", 32⟩, ⟨ "Slot", 3, 5, false, "", "", 40⟩, ⟨ "W", 3, 6, false, "", "", 48⟩, ⟨ "Member", 3, 7, false, "", "", 56⟩, ⟨ "Status", 3, 8, false, "", "", 64⟩, ⟨ "Body", 22, 9, false, "", "", 72⟩], 10, 96, .agg #[.int .i64 0, .int .i64 0, .int .i64 0, .int .i64 0, .int .i64 0, .int .i64 0, .int .i64 0, .int .i64 0, .int .i64 0, .slice none 0 0]⟩ := tyI_of (by kernel_rfl) Try.underlying25
theorem ti_api_Errno : tyI Try.prog 26 = some ⟨.int .i64, 1, 8, .int .i64 0⟩ := tyI_of (by kernel_rfl) Try.underlying26
theorem ti_Fn1d18ac79 : tyI Try.prog 28 = some ⟨.func #[22, 3] #[25, 3, 26] false, 1, 8, .nilFunc⟩ := tyI_of (by kernel_rfl) Try.underlying28
theorem ti_Fna66b8f4d : tyI Try.prog 30 = some ⟨.func #[22, 3] #[25, 3, 3] false, 1, 8, .nilFunc⟩ := tyI_of (by kernel_rfl) Try.underlying30
theorem ti_Fn3f9afd50 : tyI Try.prog 31 = some ⟨.func #[25, 25] #[4] false, 1, 8, .nilFunc⟩ := tyI_of (by kernel_rfl) Try.underlying31
theorem ti_Fn1a585f71 : tyI Try.prog 32 = some ⟨.func #[26] #[3] false, 1, 8, .nilFunc⟩ := tyI_of (by kernel_rfl) Try.underlying32
theorem ti_Fn095dc62c : tyI Try.prog 33 = some ⟨.func #[22, 3] #[4] false, 1, 8, .nilFunc⟩ := tyI_of (by kernel_rfl) Try.underlying33
theorem ti_Fnb6c0ed3a : tyI Try.prog 34 = some ⟨.func #[25, 3] #[22] false, 1, 8, .nilFunc⟩ := tyI_of (by kernel_rfl) Try.underlying34
theorem ti_Fn78979702 : tyI Try.prog 35 = some ⟨.func #[25, 5, 5] #[4] false, 1, 8, .nilFunc⟩ := tyI_of (by kernel_rfl) Try.underlying35
theorem ti_Lapi_Rec : tyI Try.prog 36 = some ⟨.slice 25, 1, 24, .slice none 0 0⟩ := tyI_of (by kernel_rfl) Try.underlying36
theorem ti_Fn7783b265 : tyI Try.prog 38 = some ⟨.func #[22, 3] #[36, 3] false, 1, 8, .nilFunc⟩ := tyI_of (by kernel_rfl) Try.underlying38
theorem ti_Fnd2e1b09c : tyI Try.prog 39 = some ⟨.func #[3, 36] #[22] true, 1, 8, .nilFunc⟩ := tyI_of (by kernel_rfl) Try.underlying39
theorem ti_Fnaea9bb52 : tyI Try.prog 40 = some ⟨.func #[36, 3, 22] #[4] false, 1, 8, .nilFunc⟩ := tyI_of (by kernel_rfl) Try.underlying40
theorem ti_Fn93885784 : tyI Try.prog 41 = some ⟨.func #[25, 3] #[3] false, 1, 8, .nilFunc⟩ := tyI_of (by kernel_rfl) Try.underlying41
theorem ti_Fn33c0d1e7 : tyI Try.prog 42 = some ⟨.func #[3] #[4] false, 1, 8, .nilFunc⟩ := tyI_of (by kernel_rfl) Try.underlying42
theorem ti_Ppack_Reader : tyI Try.prog 43 = some ⟨.pointer 66, 1, 8, .pointer none⟩ := tyI_of (by kernel_rfl) Try.underlying43
theorem ti_Fn91e0755e : tyI Try.prog 44 = some ⟨.func #[22] #[43] false, 1, 8, .nilFunc⟩ := tyI_of (by kernel_rfl) Try.underlying44
theorem ti_Fn9e06be63 : tyI Try.prog 45 = some ⟨.func #[3, 3] #[3] false, 1, 8, .nilFunc⟩ := tyI_of (by kernel_rfl) Try.underlying45
theorem ti_Fna81087db : tyI Try.prog 46 = some ⟨.func #[] #[26] false, 1, 8, .nilFunc⟩ := tyI_of (by kernel_rfl) Try.underlying46
theorem ti_uint32 : tyI Try.prog 47 = some ⟨.int .u32, 1, 4, .int .u32 0⟩ := tyI_of (by kernel_rfl) Try.underlying47
theorem ti_Fn5f660e3f : tyI Try.prog 48 = some ⟨.func #[22] #[47] false, 1, 8, .nilFunc⟩ := tyI_of (by kernel_rfl) Try.underlying48
theorem ti_Fnd8b513bf : tyI Try.prog 50 = some ⟨.func #[22] #[25, 4] false, 1, 8, .nilFunc⟩ := tyI_of (by kernel_rfl) Try.underlying50
theorem ti_Fn49957351 : tyI Try.prog 51 = some ⟨.func #[22] #[4] false, 1, 8, .nilFunc⟩ := tyI_of (by kernel_rfl) Try.underlying51
theorem ti_S16a4b75a : tyI Try.prog 52 = some ⟨.struct #[⟨ "B", 22, 0, false, "", "", 0⟩, ⟨ "At", 3, 1, false, "", "", 24⟩, ⟨ "E", 3, 2, false, "", "", 32⟩], 3, 40, .agg #[.slice none 0 0, .int .i64 0, .int .i64 0]⟩ := tyI_of (by kernel_rfl) Try.underlying52
theorem ti_revetmentref01_Reader : tyI Try.prog 53 = some ⟨.struct #[⟨ "B", 22, 0, false, "", "", 0⟩, ⟨ "At", 3, 1, false, "", "", 24⟩, ⟨ "E", 3, 2, false, "", "", 32⟩], 3, 40, .agg #[.slice none 0 0, .int .i64 0, .int .i64 0]⟩ := tyI_of (by kernel_rfl) Try.underlying53
theorem ti_Fna760b926 : tyI Try.prog 55 = some ⟨.func #[53, 3, 3] #[53, 3] false, 1, 8, .nilFunc⟩ := tyI_of (by kernel_rfl) Try.underlying55
theorem ti_A9int : tyI Try.prog 56 = some ⟨.array 9 3, 9, 72, .agg #[.int .i64 0, .int .i64 0, .int .i64 0, .int .i64 0, .int .i64 0, .int .i64 0, .int .i64 0, .int .i64 0, .int .i64 0]⟩ := tyI_of (by kernel_rfl) Try.underlying56
theorem ti_Fn0302ce38 : tyI Try.prog 58 = some ⟨.func #[53, 3] #[53, 22] false, 1, 8, .nilFunc⟩ := tyI_of (by kernel_rfl) Try.underlying58
theorem ti_Lint : tyI Try.prog 59 = some ⟨.slice 3, 1, 24, .slice none 0 0⟩ := tyI_of (by kernel_rfl) Try.underlying59
theorem ti_Fn6d948992 : tyI Try.prog 60 = some ⟨.func #[25] #[59] false, 1, 8, .nilFunc⟩ := tyI_of (by kernel_rfl) Try.underlying60
theorem ti_Fnc5432030 : tyI Try.prog 61 = some ⟨.func #[25] #[4] false, 1, 8, .nilFunc⟩ := tyI_of (by kernel_rfl) Try.underlying61
theorem ti_Fn5439d5f7 : tyI Try.prog 62 = some ⟨.func #[3] #[22] false, 1, 8, .nilFunc⟩ := tyI_of (by kernel_rfl) Try.underlying62
theorem ti_Fn616305a4 : tyI Try.prog 63 = some ⟨.func #[22] #[22] false, 1, 8, .nilFunc⟩ := tyI_of (by kernel_rfl) Try.underlying63
theorem ti_Fn1d9fdf49 : tyI Try.prog 64 = some ⟨.func #[22, 3] #[22] false, 1, 8, .nilFunc⟩ := tyI_of (by kernel_rfl) Try.underlying64
theorem ti_S4568d3be : tyI Try.prog 65 = some ⟨.struct #[⟨ "b", 22, 0, false, "", "revetment/pack", 0⟩, ⟨ "at", 3, 1, false, "", "revetment/pack", 24⟩, ⟨ "e", 26, 2, false, "", "revetment/pack", 32⟩], 3, 40, .agg #[.slice none 0 0, .int .i64 0, .int .i64 0]⟩ := tyI_of (by kernel_rfl) Try.underlying65
theorem ti_pack_Reader : tyI Try.prog 66 = some ⟨.struct #[⟨ "b", 22, 0, false, "", "revetment/pack", 0⟩, ⟨ "at", 3, 1, false, "", "revetment/pack", 24⟩, ⟨ "e", 26, 2, false, "", "revetment/pack", 32⟩], 3, 40, .agg #[.slice none 0 0, .int .i64 0, .int .i64 0]⟩ := tyI_of (by kernel_rfl) Try.underlying66
theorem ti_Fn229b430f : tyI Try.prog 67 = some ⟨.func #[75] #[47] true, 1, 8, .nilFunc⟩ := tyI_of (by kernel_rfl) Try.underlying67
theorem ti_Fn21c690ce : tyI Try.prog 68 = some ⟨.func #[] #[3] false, 1, 8, .nilFunc⟩ := tyI_of (by kernel_rfl) Try.underlying68
theorem ti_Fn9cadab1b : tyI Try.prog 69 = some ⟨.func #[22, 70] #[4] false, 1, 8, .nilFunc⟩ := tyI_of (by kernel_rfl) Try.underlying69
theorem ti_Fne6171480 : tyI Try.prog 70 = some ⟨.func #[5] #[4] false, 1, 8, .nilFunc⟩ := tyI_of (by kernel_rfl) Try.underlying70
theorem ti_Fnbdb19f3d : tyI Try.prog 71 = some ⟨.func #[22] #[3] false, 1, 8, .nilFunc⟩ := tyI_of (by kernel_rfl) Try.underlying71
theorem ti_Fn684ce10e : tyI Try.prog 72 = some ⟨.func #[47, 5] #[47] false, 1, 8, .nilFunc⟩ := tyI_of (by kernel_rfl) Try.underlying72
theorem ti_uint64 : tyI Try.prog 73 = some ⟨.int .u64, 1, 8, .int .u64 0⟩ := tyI_of (by kernel_rfl) Try.underlying73
theorem ti_Fn49d69b95 : tyI Try.prog 74 = some ⟨.func #[25] #[22] false, 1, 8, .nilFunc⟩ := tyI_of (by kernel_rfl) Try.underlying74
theorem ti_LLuint8 : tyI Try.prog 75 = some ⟨.slice 22, 1, 24, .slice none 0 0⟩ := tyI_of (by kernel_rfl) Try.underlying75
theorem ti_Fn46664cef : tyI Try.prog 76 = some ⟨.func #[22, 70] #[3] false, 1, 8, .nilFunc⟩ := tyI_of (by kernel_rfl) Try.underlying76
theorem ti_LPint : tyI Try.prog 77 = some ⟨.slice 80, 1, 24, .slice none 0 0⟩ := tyI_of (by kernel_rfl) Try.underlying77
theorem ti_Fnc8b57a97 : tyI Try.prog 78 = some ⟨.func #[79] #[77] false, 1, 8, .nilFunc⟩ := tyI_of (by kernel_rfl) Try.underlying78
theorem ti_Papi_Rec : tyI Try.prog 79 = some ⟨.pointer 25, 1, 8, .pointer none⟩ := tyI_of (by kernel_rfl) Try.underlying79
theorem ti_Pint : tyI Try.prog 80 = some ⟨.pointer 3, 1, 8, .pointer none⟩ := tyI_of (by kernel_rfl) Try.underlying80
theorem ti_Fn3d53b686 : tyI Try.prog 81 = some ⟨.func #[22, 22] #[22] false, 1, 8, .nilFunc⟩ := tyI_of (by kernel_rfl) Try.underlying81
theorem ti_uint : tyI Try.prog 82 = some ⟨.int .u64, 1, 8, .int .u64 0⟩ := tyI_of (by kernel_rfl) Try.underlying82
theorem ti_Fnbe20ad36 : tyI Try.prog 83 = some ⟨.func #[] #[9] false, 1, 8, .nilFunc⟩ := tyI_of (by kernel_rfl) Try.underlying83
theorem ti_A0Pruntime_PanicNilError : tyI Try.prog 86 = some ⟨.array 0 16, 0, 0, .agg #[]⟩ := tyI_of (by kernel_rfl) Try.underlying86
theorem ti_See34e4f1 : tyI Try.prog 87 = some ⟨.struct #[⟨ "_", 86, 0, false, "", "runtime", 0⟩], 0, 0, .agg #[]⟩ := tyI_of (by kernel_rfl) Try.underlying87
theorem ti_runtime_PanicNilError : tyI Try.prog 88 = some ⟨.struct #[⟨ "_", 86, 0, false, "", "runtime", 0⟩], 0, 0, .agg #[]⟩ := tyI_of (by kernel_rfl) Try.underlying88
theorem ti_internal_abi_TFlag : tyI Try.prog 89 = some ⟨.int .u8, 1, 1, .int .u8 0⟩ := tyI_of (by kernel_rfl) Try.underlying89
theorem ti_internal_abi_Kind : tyI Try.prog 90 = some ⟨.int .u8, 1, 1, .int .u8 0⟩ := tyI_of (by kernel_rfl) Try.underlying90
theorem ti_Fn19209128 : tyI Try.prog 91 = some ⟨.func #[97, 97] #[4] false, 1, 8, .nilFunc⟩ := tyI_of (by kernel_rfl) Try.underlying91
theorem ti_Puint8 : tyI Try.prog 92 = some ⟨.pointer 5, 1, 8, .pointer none⟩ := tyI_of (by kernel_rfl) Try.underlying92
theorem ti_internal_abi_NameOff : tyI Try.prog 93 = some ⟨.int .i32, 1, 4, .int .i32 0⟩ := tyI_of (by kernel_rfl) Try.underlying93
theorem ti_internal_abi_TypeOff : tyI Try.prog 94 = some ⟨.int .i32, 1, 4, .int .i32 0⟩ := tyI_of (by kernel_rfl) Try.underlying94
theorem mixed : Try.prog.follows .mixedOrders = true := by kernel_rfl
end Go.Proofs.Yteonkbgfpocplaa.AmF
